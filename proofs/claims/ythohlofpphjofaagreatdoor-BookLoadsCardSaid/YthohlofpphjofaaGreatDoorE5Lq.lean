/- A walk that knows values as trees: new objects, stores, calls. -/
import Derived.Handy
import Derived.WalkLawsBesides
import Derived.Deep.AppendLies
import Derived.Deep.MidRow
import Derived.Lib.Hide
set_option linter.unusedVariables false
set_option linter.unusedSimpArgs false
namespace Go.Proofs.YthohlofpphjofaaGreatDoor
theorem aO:type_of% @List.getElem?_eq_getElem:=@List.getElem?_eq_getElem
theorem bG:type_of% @Nat.le_of_ble_eq_true:=@Nat.le_of_ble_eq_true
theorem bK:type_of% @List.length_map:=@List.length_map
theorem bQ:type_of% @decide_eq_true:=@decide_eq_true
theorem bW:type_of% @decide_eq_false:=@decide_eq_false
theorem cZ:type_of% @List.mem_of_getElem?:=@List.mem_of_getElem?
theorem dw:type_of% @List.getElem?_map:=@List.getElem?_map
theorem gy:type_of% @Int.toNat_natCast:=@Int.toNat_natCast
theorem gB:type_of% @List.getElem_mem:=@List.getElem_mem
theorem gG:type_of% @Bool.and_eq_true:=@Bool.and_eq_true
theorem dG:type_of% @Nat.eq_of_beq_eq_true:=@Nat.eq_of_beq_eq_true
theorem dH:type_of% @decide_eq_true_eq:=@decide_eq_true_eq
theorem dL:type_of% @List.getD_eq_getElem?_getD:=@List.getD_eq_getElem?_getD
theorem dO:type_of% @decide_eq_false_iff_not:=@decide_eq_false_iff_not
theorem dP:type_of% @Bool.not_eq_true':=@Bool.not_eq_true'
theorem dS:type_of% @List.length_append:=@List.length_append
theorem dU:type_of% @Array.getD_eq_getD_getElem?:=@Array.getD_eq_getD_getElem?
theorem eu:type_of% @Int.not_lt:=@Int.not_lt
theorem eF:type_of% @Int.not_le:=@Int.not_le
theorem eG:type_of% @Bool.not_eq_false':=@Bool.not_eq_false'
theorem gX:type_of% @Nat.le_trans:=@Nat.le_trans
theorem iC:type_of% @List.map_append:=@List.map_append
theorem iT:type_of% @Nat.zero_le:=@Nat.zero_le
theorem jw:type_of% @List.take_length:=@List.take_length
theorem jT:type_of% @List.length_take:=@List.length_take
theorem kF:type_of% @List.take_succ_eq_append_getElem:=@List.take_succ_eq_append_getElem
theorem kQ:type_of% @Int.eq_ofNat_of_zero_le:=@Int.eq_ofNat_of_zero_le
theorem ou:type_of% @List.take_of_length_le:=@List.take_of_length_le
theorem oz:type_of% @List.getElem_of_mem:=@List.getElem_of_mem
theorem oC:type_of% @Nat.zero_add:=@Nat.zero_add
theorem oD:type_of% @Nat.lt_of_lt_of_le:=@Nat.lt_of_lt_of_le
theorem oG:type_of% @Option.map_some:=@Option.map_some
theorem oV:type_of% @List.ext_getElem:=@List.ext_getElem
theorem oW:type_of% @List.all_eq_true:=@List.all_eq_true
theorem pV:type_of% @List.getElem?_set_ne:=@List.getElem?_set_ne
theorem pW:type_of% @List.length_cons:=@List.length_cons
theorem pX:type_of% @List.drop_eq_getElem_cons:=@List.drop_eq_getElem_cons
theorem pY:type_of% @Nat.ble_eq_true_of_le:=@Nat.ble_eq_true_of_le
theorem rP:type_of% @of_decide_eq_true:=@of_decide_eq_true
theorem sK:type_of% @List.getElem?_set_self:=@List.getElem?_set_self
theorem sN:type_of% @List.eq_nil_of_length_eq_zero:=@List.eq_nil_of_length_eq_zero
theorem sO:type_of% @Array.getElem?_setIfInBounds_ne:=@Array.getElem?_setIfInBounds_ne
theorem vg:type_of% @List.append_assoc:=@List.append_assoc
theorem vk:type_of% @List.length_drop:=@List.length_drop
theorem vw:type_of% @Nat.lt_succ_self:=@Nat.lt_succ_self
theorem vC:type_of% @Array.getElem?_eq_getElem:=@Array.getElem?_eq_getElem
theorem vF:type_of% @List.eq_of_mem_replicate:=@List.eq_of_mem_replicate
theorem wz:type_of% @Int.le_refl:=@Int.le_refl
theorem wC:type_of% @List.getElem?_append_right:=@List.getElem?_append_right
theorem xX:type_of% @List.append_nil:=@List.append_nil
theorem xY:type_of% @List.getElem?_append_left:=@List.getElem?_append_left
theorem xZ:type_of% @Nat.le_succ:=@Nat.le_succ
theorem zi:type_of% @of_decide_eq_false:=@of_decide_eq_false
theorem AA:type_of% @List.length_nil:=@List.length_nil
theorem AB:type_of% @List.map_cons:=@List.map_cons
theorem AL:type_of% @List.drop_eq_nil_of_le:=@List.drop_eq_nil_of_le
theorem AP:type_of% @Nat.zero_mul:=@Nat.zero_mul
theorem AQ:type_of% @Array.ext':=@Array.ext'
theorem AU:type_of% @List.foldl_cons:=@List.foldl_cons
theorem CO:type_of% @List.mem_singleton:=@List.mem_singleton
theorem CP:type_of% @Nat.sub_zero:=@Nat.sub_zero
theorem CQ:type_of% @Bool.or_eq_true:=@Bool.or_eq_true
theorem FI:type_of% @List.map_set:=@List.map_set
theorem FK:type_of% @List.not_mem_nil:=@List.not_mem_nil
theorem FM:type_of% @Nat.lt_or_ge:=@Nat.lt_or_ge
theorem FN:type_of% @Array.getElem?_append_left:=@Array.getElem?_append_left
theorem FP:type_of% @List.range'_succ:=@List.range'_succ
theorem FQ:type_of% @List.getElem_cons_zero:=@List.getElem_cons_zero
theorem FT:type_of% @Bool.eq_iff_iff:=@Bool.eq_iff_iff
theorem Je:type_of% @List.length_singleton:=@List.length_singleton
theorem Jf:type_of% @List.map_map:=@List.map_map
theorem Jg:type_of% @List.map_congr_left:=@List.map_congr_left
theorem Jh:type_of% @List.getElem_mapIdx:=@List.getElem_mapIdx
theorem Ji:type_of% @Int.natCast_nonneg:=@Int.natCast_nonneg
theorem NP:type_of% @List.mem_cons:=@List.mem_cons
theorem NQ:type_of% @Nat.mul_one:=@Nat.mul_one
theorem NR:type_of% @List.flatten_cons:=@List.flatten_cons
theorem NU:type_of% @Nat.add_zero:=@Nat.add_zero
theorem NV:type_of% @Option.map_none:=@Option.map_none
theorem NW:type_of% @Int.natCast_add:=@Int.natCast_add
theorem QV:type_of% @List.foldl_append:=@List.foldl_append
theorem QW:type_of% @List.cons_append:=@List.cons_append
theorem QX:type_of% @List.mem_cons_of_mem:=@List.mem_cons_of_mem
theorem QY:type_of% @List.size_toArray:=@List.size_toArray
theorem QZ:type_of% @Option.getD_some:=@Option.getD_some
theorem Q5:type_of% @Bool.false_or:=@Bool.false_or
theorem Q7:type_of% @List.map_drop:=@List.map_drop
theorem Q8:type_of% @Nat.lt_trichotomy:=@Nat.lt_trichotomy
theorem Q9:type_of% @Nat.add_assoc:=@Nat.add_assoc
theorem Rf:type_of% @Nat.succ_mul:=@Nat.succ_mul
theorem Rh:type_of% @List.length_set:=@List.length_set
theorem Ri:type_of% @Nat.le_add_right:=@Nat.le_add_right
theorem Rj:type_of% @List.range_eq_range':=@List.range_eq_range'
theorem Yt:type_of% @List.length_replicate:=@List.length_replicate
theorem Yu:type_of% @List.takeWhile_sublist:=@List.takeWhile_sublist
theorem Yv:type_of% @List.drop_left:=@List.drop_left
theorem Yw:type_of% @List.getElem_set:=@List.getElem_set
theorem Yx:type_of% @List.getElem_map:=@List.getElem_map
theorem Yy:type_of% @Option.bind_some:=@Option.bind_some
theorem Yz:type_of% @Nat.not_lt_zero:=@Nat.not_lt_zero
theorem Nv:type_of% @List.getElem?_drop:=@List.getElem?_drop
theorem Nw:type_of% @List.range_succ:=@List.range_succ
theorem Ny:type_of% @List.mem_append_left:=@List.mem_append_left
theorem Nz:type_of% @Bool.false_eq_true:=@Bool.false_eq_true
theorem ND:type_of% @List.takeWhile_cons:=@List.takeWhile_cons
theorem NG:type_of% @List.flatMap_cons:=@List.flatMap_cons
theorem NH:type_of% @List.length_mapIdx:=@List.length_mapIdx
theorem NI:type_of% @List.take_append_drop:=@List.take_append_drop
theorem NJ:type_of% @List.find?_eq_none:=@List.find?_eq_none
theorem NK:type_of% @Int.natCast_one:=@Int.natCast_one
theorem NM:type_of% @List.mem_of_mem_take:=@List.mem_of_mem_take
theorem Uk:type_of% @List.getElem?_range:=@List.getElem?_range
theorem Ul:type_of% @List.set_append_right:=@List.set_append_right
theorem Um:type_of% @List.replicate_succ:=@List.replicate_succ
theorem Un:type_of% @List.nil_append:=@List.nil_append
theorem Uo:type_of% @List.getElem?_take_of_lt:=@List.getElem?_take_of_lt
theorem Ur:type_of% @Nat.mul_le_mul_right:=@Nat.mul_le_mul_right
theorem Us:type_of% @List.mem_or_eq_of_mem_set:=@List.mem_or_eq_of_mem_set
theorem Ut:type_of% @Array.length_toList:=@Array.length_toList
theorem Uu:type_of% @Nat.mul_le_mul:=@Nat.mul_le_mul
theorem Uw:type_of% @List.getElem?_set:=@List.getElem?_set
theorem Ux:type_of% @List.filter_append:=@List.filter_append
theorem Uy:type_of% @List.map_take:=@List.map_take
theorem Uz:type_of% @List.length_reverse:=@List.length_reverse
theorem UA:type_of% @List.mem_range:=@List.mem_range
theorem UC:type_of% @Bool.true_and:=@Bool.true_and
theorem abl:type_of% @List.getElem?_replicate:=@List.getElem?_replicate
theorem abm:type_of% @Array.replicate_succ:=@Array.replicate_succ
theorem abn:type_of% @Array.replicate_zero:=@Array.replicate_zero
theorem abo:type_of% @List.append_toArray:=@List.append_toArray
theorem abp:type_of% @List.takeWhile_prefix:=@List.takeWhile_prefix
theorem abq:type_of% @List.getElem_range:=@List.getElem_range
theorem abr:type_of% @List.getElem?_eq_none:=@List.getElem?_eq_none
theorem abt:type_of% @Array.getElem?_eq_none:=@Array.getElem?_eq_none
theorem abu:type_of% @Nat.eq_zero_or_pos:=@Nat.eq_zero_or_pos
theorem abv:type_of% @List.getElem?_toArray:=@List.getElem?_toArray
theorem abw:type_of% @List.mem_of_find?_eq_some:=@List.mem_of_find?_eq_some
theorem abx:type_of% @Option.map_eq_some_iff:=@Option.map_eq_some_iff
theorem aby:type_of% @Array.getElem?_modify:=@Array.getElem?_modify
section
variable {p:Prop}
theorem amh(h:p:=by
 refine⟨u,?_,.pu _ _ hp,hp.bd _⟩;simp_all[uw,Q9]):p:=h
theorem abV(h:p:=by
 obtain⟨G',y⟩:=h G a w x;exact k G' a w y):p:=h
theorem alV(h:p:=by
 show (a.tmps.setIfInBounds d v).size=C.N;rw [Array.size_setIfInBounds];exact h.sz):p:=h
theorem alK(h:p:=by
 subst hm;unfold execOp;simp [ho,resolve,invoke,builtin,e,Builtin.len_,run_underlying hT,goInt]):p:=h
theorem alo(h:p:=by
 have hlt:m<n:=by rw [← hlen];exact (List.getElem?_eq_some_iff.1 h).1
 rw [← hl,Uo hlt] at h;exact h):p:=h
theorem alj(h:p:=by exact hN G' _ _ (ok'.set (d:=some d) (.pt σ.nk 0 0 _ hbb.symm (by simp) rfl) (.pt _ _ _ (vw _)) λx hx=>by simp_all)):p:=h
theorem abI(h:p:=by
 have hlt:i<cs.size:=by grind
 exact ih i x cs[i] hx (vC hlt)):p:=h
theorem aea(h:p:=by exact ⟨ok.df.1,v,hr,v,F',rfl,ok.bel.Yh (λ_ h=>h),λp u x=>hle p u (ok.f0 p u x),hfw,λp u x=>(hnew p u x).elim (λy=>(ok.f1 p u y).elim .inl λz=>.inr (z.elim id λh=>h.elim)) λz=>.inr (z.elim id λh=>h.elim),hres⟩):p:=h
end
section
open Go.RowKit
theorem au {p:Prop} (h:p:=by omega):p:=h
theorem aK {α:Sort _} {a b:α} (h:a = b:=by kernel_rfl):a = b:=h
theorem wY {p:Prop} (h:p:=by first|omega|(simp;done)|(simp;omega)):p:=h
structure dA(q:Prop):Type where k:q
theorem Rw {p:Prop}(h:p:=by simpa using hu):p:=h
theorem CZ {p:Prop}(h:p:=by simp [h]):p:=h
theorem Oi {p:Prop}(h:p:=by repeat constructor):p:=h
theorem yj {p:Prop}(h:p:=by simpa using h):p:=h
theorem yh {p:Prop}(h:p:=by simpa using h1):p:=h
theorem wF {p:Prop}(h:p:=by simpa using q):p:=h
theorem Ia {p:Prop}(h:p:=by first|(simp;done)|fail):p:=h
theorem abD {p:Prop}(h:p:=by first|exact zO (by omega)|exact Tj (by omega) (by omega)):p:=h
theorem vI {p:Prop}(h:p:=by (unfold I64);omega):p:=h
theorem JG {p:Prop}(h:p:=by first|exact bK _|exact Yt|rfl):p:=h
theorem uf {p q:Prop}(k:q)(h:dA q->p:=by (intro hq;(first|refine WL.ar rfl rfl vI ?_|refine WL.len rfl rfl JG ?_|refine WL.idx rfl rfl (by omega) abD ?_);exact hq.k)):p:=h ⟨k⟩
theorem UH {p q:Prop}(k:q)(h:dA q->p:=by (intro hq;(first|refine W.gob rfl ?_|refine WL.nil ?_|refine WL.bt rfl rfl rfl (by omega) ?_|refine WL.bf rfl rfl rfl (by omega) ?_);exact hq.k)):p:=h ⟨k⟩
theorem wZ {p q:Prop}(k:q)(h:dA q->p:=by (intro hq;(first|refine WL.VP rfl rfl rfl rfl ?_|refine WL.auG rfl rfl rfl rfl rfl rfl rfl ?_);exact hq.k)):p:=h ⟨k⟩
theorem kK {p q:Prop}(k:q)(h:dA q->p:=by (intro hq;(first|refine W.yY rfl ?_|refine W.uz rfl ?_);exact hq.k)):p:=h ⟨k⟩
theorem H9 {p q:Prop}(k:q)(h:dA q->p:=by (intro hq;(first|refine WL.nt rfl rfl rfl (by omega) ?_|refine WL.nf rfl rfl rfl (by omega) ?_|refine WL.e1 rfl ?_);exact hq.k)):p:=h ⟨k⟩
theorem JF {p q:Prop}(k:q)(h:dA q->p:=by (intro hq;(first|refine WL.ar rfl rfl vI ?_|refine WL.len rfl rfl JG ?_);exact hq.k)):p:=h ⟨k⟩
theorem Og {p q:Prop}(k:q)(h:dA q->p:=by (intro hq;(first|refine wZ ?_|refine WL.ar rfl rfl vI ?_);exact hq.k)):p:=h ⟨k⟩
theorem YK {p q:Prop}(k:q)(h:dA q->p:=by (intro hq;(first|refine WL.len rfl rfl JG ?_|refine kK ?_);exact hq.k)):p:=h ⟨k⟩
theorem BU {p q:Prop}(k:q)(h:dA q->p:=by (intro hq;(first|refine W.go rfl ?_|refine WL.nil ?_|refine WL.ev rfl ?_);exact hq.k)):p:=h ⟨k⟩
theorem avu {p q:Prop}(k:q)(h:dA q->p:=by (intro hq;(first|refine WL.len rfl rfl JG ?_|refine WL.idx rfl rfl (by omega) abD ?_);exact hq.k)):p:=h ⟨k⟩
theorem lM {p q:Prop}(k:q)(h:dA q->p:=by (intro hq;(first|refine UH ?_|refine WL.e1 rfl ?_);exact hq.k)):p:=h ⟨k⟩
theorem rU {p q:Prop}(k:q)(h:dA q->p:=by (intro hq;(first|refine WL.app rfl rfl rfl wY ?_|refine kK ?_);exact hq.k)):p:=h ⟨k⟩
theorem qj {p q:Prop}(k:q)(h:dA q->p:=by (intro hq;(first|refine W.gob rfl ?_|refine WL.nil ?_);exact hq.k)):p:=h ⟨k⟩
theorem CW {p q:Prop}(k:q)(h:dA q->p:=by (intro hq;(first|refine UH ?_|refine H9 ?_|refine wZ ?_);exact hq.k)):p:=h ⟨k⟩
theorem Jo {p q:Prop}(k:q)(h:dA q->p:=by (intro hq;(first|refine WL.vl rfl (WV.IC rfl rfl) ?_|refine qj ?_);exact hq.k)):p:=h ⟨k⟩
theorem FV {p q:Prop}(k:q)(h:dA q->p:=by (intro hq;(first|refine WL.cat rfl rfl wY ?_|refine kK ?_);exact hq.k)):p:=h ⟨k⟩
theorem FW {p q:Prop}(k:q)(h:dA q->p:=by (intro hq;(first|refine WL.ixs rfl rfl wY ?_|refine kK ?_);exact hq.k)):p:=h ⟨k⟩
theorem Oc {p q:Prop}(k:q)(h:dA q->p:=by (intro hq;(first|refine WL.vl rfl (WV.IC rfl rfl) ?_|refine lM ?_);exact hq.k)):p:=h ⟨k⟩
theorem Oe {p q:Prop}(k:q)(h:dA q->p:=by (intro hq;(first|refine Og ?_|refine WL.len rfl rfl rfl ?_);exact hq.k)):p:=h ⟨k⟩
theorem Jp {p q:Prop}(k:q)(h:dA q->p:=by (intro hq;(first|refine W.go rfl ?_|refine WL.ev rfl ?_);exact hq.k)):p:=h ⟨k⟩
theorem adT {p q:Prop}(k:q)(h:dA q->p:=by (intro hq;(first|refine WL.e1 rfl ?_|refine WL.ar rfl rfl vI ?_);exact hq.k)):p:=h ⟨k⟩
theorem aru {p q:Prop}(k:q)(h:dA q->p:=by (intro hq;(first|refine WL.ar rfl rfl vI ?_|refine WL.idx rfl rfl (by omega) abD ?_|refine kK ?_);exact hq.k)):p:=h ⟨k⟩
theorem YI {p q:Prop}(k:q)(h:dA q->p:=by (intro hq;(first|refine WL.e1 rfl ?_|refine WL.VP rfl rfl rfl rfl ?_);exact hq.k)):p:=h ⟨k⟩
theorem YJ {p q:Prop}(k:q)(h:dA q->p:=by (intro hq;(first|refine WL.vl rfl (WV.IC rfl rfl) ?_|refine UH ?_);exact hq.k)):p:=h ⟨k⟩
theorem lN {p q:Prop}(k:q)(h:dA q->p:=by
 intro hq;unfold Oper.wp execOp;exact hq.k):p:=h ⟨k⟩
theorem H7 {p q:Prop} (k:q) (h:dA q->p:=by(intro hq;(repeat(first|refine W.go rfl ?_|refine WL.ev rfl ?_);(first|refine(?_:W _ _ _ _ _)|refine(?_:WL _ _ _ _ _ _)|skip);try dsimp only [St.put,Nat.reduceAdd]);exact hq.k)):p:=h ⟨k⟩
theorem aAA {p q:Prop} (k:q) (h:dA q->p:=by (intro hq;(repeat (first|refine Jp ?_|refine uf ?_);(first|refine (?_:W _ _ _ _ _)|refine (?_:WL _ _ _ _ _ _)|skip);try dsimp only [St.put,Nat.reduceAdd]);exact hq.k)):p:=h ⟨k⟩
theorem avt {p q:Prop} (k:q) (h:dA q->p:=by (intro hq;(repeat (first|refine BU ?_|refine wZ ?_|refine uf ?_|refine W.uz rfl ?_);(first|refine (?_:W _ _ _ _ _)|refine (?_:WL _ _ _ _ _ _)|skip);try dsimp only [St.put,Nat.reduceAdd]);exact hq.k)):p:=h ⟨k⟩
theorem ax7 {p q:Prop} (k:q) (h:dA q->p:=by (intro hq;(repeat (first|refine lM ?_|refine wZ ?_|refine uf ?_|refine W.uz rfl ?_);(first|refine (?_:W _ _ _ _ _)|refine (?_:WL _ _ _ _ _ _)|skip);try dsimp only [St.put,Nat.reduceAdd]);exact hq.k)):p:=h ⟨k⟩
theorem AX {p q:Prop} (k:q) (h:dA q->p:=by (intro hq;(repeat (first|refine BU ?_|refine wZ ?_|refine uf ?_|refine rU ?_);(first|refine (?_:W _ _ _ _ _)|refine (?_:WL _ _ _ _ _ _)|skip);try dsimp only [St.put,Nat.reduceAdd]);exact hq.k)):p:=h ⟨k⟩
theorem Pj {p q:Prop} (k:q) (h:dA q->p:=by (intro hq;(repeat (first|refine lM ?_|refine wZ ?_|refine uf ?_|refine rU ?_);(first|refine (?_:W _ _ _ _ _)|refine (?_:WL _ _ _ _ _ _)|skip);try dsimp only [St.put,Nat.reduceAdd]);exact hq.k)):p:=h ⟨k⟩
theorem aql {p q:Prop} (k:q) (h:dA q->p:=by(intro hq;(repeat(first|refine W.go rfl ?_|refine WL.nil ?_|refine WL.ev rfl ?_|refine W.yY rfl ?_|refine W.uz rfl ?_);(first|refine(?_:W _ _ _ _ _)|refine(?_:WL _ _ _ _ _ _)|skip);try dsimp only [St.put,Nat.reduceAdd]);exact hq.k)):p:=h ⟨k⟩
theorem aAB {p q:Prop} (k:q) (h:dA q->p:=by (intro hq;(repeat (first|refine qj ?_|refine WL.nt rfl rfl rfl (by omega) ?_|refine WL.e1 rfl ?_|refine kK ?_);(first|refine (?_:W _ _ _ _ _)|refine (?_:WL _ _ _ _ _ _)|skip);try dsimp only [St.put,Nat.reduceAdd]);exact hq.k)):p:=h ⟨k⟩
theorem YH {p q:Prop} (k:q) (h:dA q->p:=by (intro hq;(repeat (first|refine BU ?_|refine uf ?_|refine FW ?_);(first|refine (?_:W _ _ _ _ _)|refine (?_:WL _ _ _ _ _ _)|skip);try dsimp only [St.put,Nat.reduceAdd]);exact hq.k)):p:=h ⟨k⟩
theorem akN {p q:Prop} (k:q) (h:dA q->p:=by (intro hq;(repeat (first|refine lM ?_|refine uf ?_|refine FW ?_);(first|refine (?_:W _ _ _ _ _)|refine (?_:WL _ _ _ _ _ _)|skip);try dsimp only [St.put,Nat.reduceAdd]);exact hq.k)):p:=h ⟨k⟩
theorem aq5 {p q:Prop} (k:q) (h:dA q->p:=by(intro hq;(repeat(first|refine W.go rfl ?_|refine WL.nil ?_|refine W.yY rfl ?_);(first|refine(?_:W _ _ _ _ _)|refine(?_:WL _ _ _ _ _ _)|skip);try dsimp only [St.put,Nat.reduceAdd]);exact hq.k)):p:=h ⟨k⟩
theorem ax3 {p q:Prop} (k:q) (h:dA q->p:=by (intro hq;(repeat (first|refine qj ?_|refine WL.nt rfl rfl rfl (by omega) ?_|refine WL.e1 rfl ?_|refine W.yY rfl ?_);(first|refine (?_:W _ _ _ _ _)|refine (?_:WL _ _ _ _ _ _)|skip);try dsimp only [St.put,Nat.reduceAdd]);exact hq.k)):p:=h ⟨k⟩
theorem ax4 {p q:Prop} (k:q) (h:dA q->p:=by (intro hq;(repeat (first|refine W.go rfl ?_|refine WL.nil ?_|refine aru ?_);(first|refine (?_:W _ _ _ _ _)|refine (?_:WL _ _ _ _ _ _)|skip);try dsimp only [St.put,Nat.reduceAdd]);exact hq.k)):p:=h ⟨k⟩
theorem YA {p q:Prop} (k:q) (h:dA q->p:=by (intro hq;(repeat (first|refine lM ?_|refine aru ?_);(first|refine (?_:W _ _ _ _ _)|refine (?_:WL _ _ _ _ _ _)|skip);try dsimp only [St.put,Nat.reduceAdd]);exact hq.k)):p:=h ⟨k⟩
theorem YB {p q:Prop} (k:q) (h:dA q->p:=by(intro hq;(repeat(first|refine W.gob rfl ?_|refine WL.nil ?_|refine WL.e1 rfl ?_|refine W.yY rfl ?_);(first|refine(?_:W _ _ _ _ _)|refine(?_:WL _ _ _ _ _ _)|skip);try dsimp only [St.put,Nat.reduceAdd]);exact hq.k)):p:=h ⟨k⟩
theorem ax5 {p q:Prop} (k:q) (h:dA q->p:=by(intro hq;(repeat(first|refine W.go rfl ?_|refine WL.nil ?_|refine W.uz rfl ?_);(first|refine(?_:W _ _ _ _ _)|refine(?_:WL _ _ _ _ _ _)|skip);try dsimp only [St.put,Nat.reduceAdd]);exact hq.k)):p:=h ⟨k⟩
theorem aq6 {p q:Prop} (k:q) (h:dA q->p:=by(intro hq;(repeat(first|refine W.gob rfl ?_|refine WL.nil ?_|refine WL.e1 rfl ?_|refine W.uz rfl ?_);(first|refine(?_:W _ _ _ _ _)|refine(?_:WL _ _ _ _ _ _)|skip);try dsimp only [St.put,Nat.reduceAdd]);exact hq.k)):p:=h ⟨k⟩
theorem Jj {p q:Prop} (k:q) (h:dA q->p:=by (intro hq;(repeat (first|refine W.go rfl ?_|refine WL.nil ?_|refine wZ ?_|refine uf ?_|refine WL.app rfl rfl rfl wY ?_|refine FV ?_);(first|refine (?_:W _ _ _ _ _)|refine (?_:WL _ _ _ _ _ _)|skip);try dsimp only [St.put,Nat.reduceAdd]);exact hq.k)):p:=h ⟨k⟩
theorem dM {p q:Prop} (k:q) (h:dA q->p:=by (intro hq;(repeat (first|refine CW ?_|refine uf ?_|refine WL.app rfl rfl rfl wY ?_|refine FV ?_);(first|refine (?_:W _ _ _ _ _)|refine (?_:WL _ _ _ _ _ _)|skip);try dsimp only [St.put,Nat.reduceAdd]);exact hq.k)):p:=h ⟨k⟩
theorem adN {p q:Prop} (k:q) (h:dA q->p:=by (intro hq;(repeat (first|refine W.go rfl ?_|refine WL.nil ?_|refine YK ?_);(first|refine (?_:W _ _ _ _ _)|refine (?_:WL _ _ _ _ _ _)|skip);try dsimp only [St.put,Nat.reduceAdd]);exact hq.k)):p:=h ⟨k⟩
theorem CV {p q:Prop} (k:q) (h:dA q->p:=by (intro hq;(repeat (first|refine qj ?_|refine WL.bf rfl rfl rfl (by omega) ?_|refine H9 ?_|refine YK ?_);(first|refine (?_:W _ _ _ _ _)|refine (?_:WL _ _ _ _ _ _)|skip);try dsimp only [St.put,Nat.reduceAdd]);exact hq.k)):p:=h ⟨k⟩
theorem akG {p q:Prop} (k:q) (h:dA q->p:=by (intro hq;(repeat (first|refine BU ?_|refine WL.VP rfl rfl rfl rfl ?_|refine avu ?_);(first|refine (?_:W _ _ _ _ _)|refine (?_:WL _ _ _ _ _ _)|skip);try dsimp only [St.put,Nat.reduceAdd]);exact hq.k)):p:=h ⟨k⟩
theorem aq7 {p q:Prop} (k:q) (h:dA q->p:=by (intro hq;(repeat (first|refine qj ?_|refine WL.bt rfl rfl rfl (by omega) ?_|refine YI ?_|refine avu ?_);(first|refine (?_:W _ _ _ _ _)|refine (?_:WL _ _ _ _ _ _)|skip);try dsimp only [St.put,Nat.reduceAdd]);exact hq.k)):p:=h ⟨k⟩
theorem Rk {p q:Prop} (k:q) (h:dA q->p:=by (intro hq;(repeat (first|refine UH ?_|refine WL.nf rfl rfl rfl (by omega) ?_|refine YI ?_|refine JF ?_|refine kK ?_);(first|refine (?_:W _ _ _ _ _)|refine (?_:WL _ _ _ _ _ _)|skip);try dsimp only [St.put,Nat.reduceAdd]);exact hq.k)):p:=h ⟨k⟩
theorem ax6 {p q:Prop} (k:q) (h:dA q->p:=by (intro hq;(repeat (first|refine Eb.st rfl rfl ?_|refine Eb.idx rfl rfl (by omega) abD ?_|refine Eb.al rfl rfl rfl rfl ⟨rfl,rfl,trivial⟩ ?_|refine Eb.xq rfl rfl rfl rfl rfl rfl rfl rfl rfl rfl rfl rfl rfl rfl ⟨rfl,rfl,trivial⟩ ?_|refine Eb.nil ?_));exact hq.k)):p:=h ⟨k⟩
theorem kG {p q:Prop} (k:q) (h:dA q->p:=by (intro hq;(repeat (first|refine lM ?_|refine wZ ?_|refine JF ?_|refine kK ?_);(first|refine (?_:W _ _ _ _ _)|refine (?_:WL _ _ _ _ _ _)|skip);try dsimp only [St.put,Nat.reduceAdd]);exact hq.k)):p:=h ⟨k⟩
theorem aq9 {p q:Prop} (k:q) (h:dA q->p:=by(intro hq;(repeat(first|refine W.go rfl ?_|refine WL.nil ?_|refine W.yY rfl ?_|refine W.uz rfl ?_);(first|refine(?_:W _ _ _ _ _)|refine(?_:WL _ _ _ _ _ _)|skip);try dsimp only [St.put,Nat.reduceAdd]);exact hq.k)):p:=h ⟨k⟩
theorem ara {p q:Prop} (k:q) (h:dA q->p:=by (intro hq;(repeat (first|refine qj ?_|refine WL.bf rfl rfl rfl (by omega) ?_|refine WL.e1 rfl ?_|refine kK ?_);(first|refine (?_:W _ _ _ _ _)|refine (?_:WL _ _ _ _ _ _)|skip);try dsimp only [St.put,Nat.reduceAdd]);exact hq.k)):p:=h ⟨k⟩
theorem ax8 {p q:Prop} (k:q) (h:dA q->p:=by (intro hq;(repeat (first|refine W.go rfl ?_|refine WL.nil ?_|refine WL.VP rfl rfl rfl rfl ?_|refine uf ?_|refine W.uz rfl ?_);(first|refine (?_:W _ _ _ _ _)|refine (?_:WL _ _ _ _ _ _)|skip);try dsimp only [St.put,Nat.reduceAdd]);exact hq.k)):p:=h ⟨k⟩
theorem arb {p q:Prop} (k:q) (h:dA q->p:=by (intro hq;(repeat (first|refine qj ?_|refine WL.bf rfl rfl rfl (by omega) ?_|refine WL.nf rfl rfl rfl (by omega) ?_|refine YI ?_|refine uf ?_|refine W.uz rfl ?_);(first|refine (?_:W _ _ _ _ _)|refine (?_:WL _ _ _ _ _ _)|skip);try dsimp only [St.put,Nat.reduceAdd]);exact hq.k)):p:=h ⟨k⟩
theorem iM {p q:Prop} (k:q) (h:dA q->p:=by (intro hq;(repeat (first|refine BU ?_|refine uf ?_|refine WL.ixs rfl rfl wY ?_|refine WL.app rfl rfl rfl wY ?_);(first|refine (?_:W _ _ _ _ _)|refine (?_:WL _ _ _ _ _ _)|skip);try dsimp only [St.put,Nat.reduceAdd]);exact hq.k)):p:=h ⟨k⟩
theorem ard {p q:Prop} (k:q) (h:dA q->p:=by(intro hq;(repeat(first|refine W.go rfl ?_);(first|refine(?_:W _ _ _ _ _)|refine(?_:WL _ _ _ _ _ _)|skip);try dsimp only [St.put,Nat.reduceAdd]);exact hq.k)):p:=h ⟨k⟩
theorem Rl {p q:Prop} (k:q) (h:dA q->p:=by (intro hq;(repeat (first|refine BU ?_|refine wZ ?_|refine YK ?_);(first|refine (?_:W _ _ _ _ _)|refine (?_:WL _ _ _ _ _ _)|skip);try dsimp only [St.put,Nat.reduceAdd]);exact hq.k)):p:=h ⟨k⟩
theorem ni {p q:Prop} (k:q) (h:dA q->p:=by (intro hq;(repeat (first|refine lM ?_|refine wZ ?_|refine YK ?_);(first|refine (?_:W _ _ _ _ _)|refine (?_:WL _ _ _ _ _ _)|skip);try dsimp only [St.put,Nat.reduceAdd]);exact hq.k)):p:=h ⟨k⟩
theorem Jl {p q:Prop} (k:q) (h:dA q->p:=by (intro hq;(repeat (first|refine BU ?_|refine JF ?_|refine FW ?_);(first|refine (?_:W _ _ _ _ _)|refine (?_:WL _ _ _ _ _ _)|skip);try dsimp only [St.put,Nat.reduceAdd]);exact hq.k)):p:=h ⟨k⟩
theorem rQ {p q:Prop} (k:q) (h:dA q->p:=by (intro hq;(repeat (first|refine lM ?_|refine JF ?_|refine FW ?_);(first|refine (?_:W _ _ _ _ _)|refine (?_:WL _ _ _ _ _ _)|skip);try dsimp only [St.put,Nat.reduceAdd]);exact hq.k)):p:=h ⟨k⟩
theorem zk {p q:Prop} (k:q) (h:dA q->p:=by (intro hq;(repeat (first|refine lM ?_|refine wZ ?_|refine kK ?_);(first|refine (?_:W _ _ _ _ _)|refine (?_:WL _ _ _ _ _ _)|skip);try dsimp only [St.put,Nat.reduceAdd]);exact hq.k)):p:=h ⟨k⟩
theorem YC {p q:Prop} (k:q) (h:dA q->p:=by (intro hq;(repeat (first|refine BU ?_|refine wZ ?_|refine JF ?_|refine kK ?_);(first|refine (?_:W _ _ _ _ _)|refine (?_:WL _ _ _ _ _ _)|skip);try dsimp only [St.put,Nat.reduceAdd]);exact hq.k)):p:=h ⟨k⟩
theorem lJ {p q:Prop} (k:q) (h:dA q->p:=by (intro hq;(repeat (first|refine CW ?_|refine JF ?_|refine kK ?_);(first|refine (?_:W _ _ _ _ _)|refine (?_:WL _ _ _ _ _ _)|skip);try dsimp only [St.put,Nat.reduceAdd]);exact hq.k)):p:=h ⟨k⟩
theorem ax9 {p q:Prop} (k:q) (h:dA q->p:=by (intro hq;(repeat (first|refine lM ?_|refine kK ?_);(first|refine (?_:W _ _ _ _ _)|refine (?_:WL _ _ _ _ _ _)|skip);try dsimp only [St.put,Nat.reduceAdd]);exact hq.k)):p:=h ⟨k⟩
theorem kH {p q:Prop} (k:q) (h:dA q->p:=by (intro hq;(repeat (first|refine CW ?_|refine uf ?_|refine rU ?_);(first|refine (?_:W _ _ _ _ _)|refine (?_:WL _ _ _ _ _ _)|skip);try dsimp only [St.put,Nat.reduceAdd]);exact hq.k)):p:=h ⟨k⟩
theorem arf {p q:Prop} (k:q) (h:dA q->p:=by (intro hq;(repeat (first|refine nD.st rfl rfl ?_|refine nD.ar rfl rfl vI ?_|refine nD.idx rfl rfl (by omega) abD ?_|refine nD.s1 rfl (by kernel_rfl) rfl ?_|refine nD.bd rfl rfl rfl Oi ?_|refine nD.ap rfl rfl wY Oi ?_|refine nD.nil ?_));exact hq.k)):p:=h ⟨k⟩
theorem Rn {p q:Prop} (k:q) (h:dA q->p:=by (intro hq;(repeat (first|refine DK.bt rfl rfl (by omega) ?_|refine DK.bf rfl rfl (by omega) ?_|refine DK.tt rfl Ia ?_|refine DK.ff rfl Ia ?_|refine DK.st rfl ?_|refine DK.len rfl rfl JG ?_|refine DK.idx rfl rfl (by omega) abD ?_|refine DK.nil ?_));exact hq.k)):p:=h ⟨k⟩
theorem kJ {p q:Prop} (k:q) (h:dA q->p:=by (intro hq;(repeat (first|refine Jp ?_|refine WL.VP rfl rfl rfl rfl ?_|refine JF ?_|refine W.uz rfl ?_);(first|refine (?_:W _ _ _ _ _)|refine (?_:WL _ _ _ _ _ _)|skip);try dsimp only [St.put,Nat.reduceAdd]);exact hq.k)):p:=h ⟨k⟩
theorem arh {p q:Prop} (k:q) (h:dA q->p:=by (intro hq;(repeat (first|refine qj ?_|refine WL.e1 rfl ?_|refine rU ?_);(first|refine (?_:W _ _ _ _ _)|refine (?_:WL _ _ _ _ _ _)|skip);try dsimp only [St.put,Nat.reduceAdd]);exact hq.k)):p:=h ⟨k⟩
theorem fP {p q:Prop} (k:q) (h:dA q->p:=by (intro hq;(repeat (first|refine lM ?_|refine uf ?_|refine kK ?_);(first|refine (?_:W _ _ _ _ _)|refine (?_:WL _ _ _ _ _ _)|skip);try dsimp only [St.put,Nat.reduceAdd]);exact hq.k)):p:=h ⟨k⟩
theorem vH {p q:Prop} (k:q) (h:dA q->p:=by (intro hq;(repeat (first|refine Jp ?_|refine wZ ?_|refine WL.app rfl rfl rfl wY ?_|refine W.uz rfl ?_);(first|refine (?_:W _ _ _ _ _)|refine (?_:WL _ _ _ _ _ _)|skip);try dsimp only [St.put,Nat.reduceAdd]);exact hq.k)):p:=h ⟨k⟩
theorem aya {p q:Prop} (k:q) (h:dA q->p:=by (intro hq;(repeat (first|refine BU ?_|refine uf ?_|refine kK ?_);(first|refine (?_:W _ _ _ _ _)|refine (?_:WL _ _ _ _ _ _)|skip);try dsimp only [St.put,Nat.reduceAdd]);exact hq.k)):p:=h ⟨k⟩
theorem adO {p q:Prop} (k:q) (h:dA q->p:=by (intro hq;(repeat (first|refine BU ?_|refine wZ ?_|refine uf ?_|refine WL.app rfl rfl rfl wY ?_|refine FV ?_);(first|refine (?_:W _ _ _ _ _)|refine (?_:WL _ _ _ _ _ _)|skip);try dsimp only [St.put,Nat.reduceAdd]);exact hq.k)):p:=h ⟨k⟩
theorem YD {p q:Prop} (k:q) (h:dA q->p:=by (intro hq;(repeat (first|refine BU ?_|refine WL.VP rfl rfl rfl rfl ?_|refine WL.len rfl rfl JG ?_);(first|refine (?_:W _ _ _ _ _)|refine (?_:WL _ _ _ _ _ _)|skip);try dsimp only [St.put,Nat.reduceAdd]);exact hq.k)):p:=h ⟨k⟩
theorem akH {p q:Prop} (k:q) (h:dA q->p:=by (intro hq;(repeat (first|refine qj ?_|refine WL.bt rfl rfl rfl (by omega) ?_|refine YI ?_|refine WL.len rfl rfl JG ?_);(first|refine (?_:W _ _ _ _ _)|refine (?_:WL _ _ _ _ _ _)|skip);try dsimp only [St.put,Nat.reduceAdd]);exact hq.k)):p:=h ⟨k⟩
theorem akI {p q:Prop} (k:q) (h:dA q->p:=by (intro hq;(repeat (first|refine Jo ?_|refine WL.bt rfl rfl rfl (by omega) ?_|refine adT ?_|refine WL.len rfl rfl rfl ?_|refine W.yY rfl ?_);(first|refine (?_:W _ _ _ _ _)|refine (?_:WL _ _ _ _ _ _)|skip);try dsimp only [St.put,Nat.reduceAdd]);exact hq.k)):p:=h ⟨k⟩
theorem mD {p q:Prop} (k:q) (h:dA q->p:=by (intro hq;(repeat (first|refine YJ ?_|refine H9 ?_|refine WL.ar rfl rfl vI ?_|refine FV ?_);(first|refine (?_:W _ _ _ _ _)|refine (?_:WL _ _ _ _ _ _)|skip);try dsimp only [St.put,Nat.reduceAdd]);exact hq.k)):p:=h ⟨k⟩
theorem akJ {p q:Prop} (k:q) (h:dA q->p:=by (intro hq;(repeat (first|refine Jo ?_|refine WL.e1 rfl ?_);(first|refine (?_:W _ _ _ _ _)|refine (?_:WL _ _ _ _ _ _)|skip);try dsimp only [St.put,Nat.reduceAdd]);exact hq.k)):p:=h ⟨k⟩
theorem qc {p q:Prop} (k:q) (h:dA q->p:=by (intro hq;(repeat (first|refine Jo ?_|refine H9 ?_|refine kK ?_);(first|refine (?_:W _ _ _ _ _)|refine (?_:WL _ _ _ _ _ _)|skip);try dsimp only [St.put,Nat.reduceAdd]);exact hq.k)):p:=h ⟨k⟩
theorem AY {p q:Prop} (k:q) (h:dA q->p:=by (intro hq;(repeat (first|refine Oc ?_|refine Oe ?_|refine rU ?_);(first|refine (?_:W _ _ _ _ _)|refine (?_:WL _ _ _ _ _ _)|skip);try dsimp only [St.put,Nat.reduceAdd]);exact hq.k)):p:=h ⟨k⟩
theorem NZ {p q:Prop} (k:q) (h:dA q->p:=by (intro hq;(repeat (first|refine DK.vl rfl (WV.IC rfl rfl) ?_|refine DK.bf rfl rfl (by omega) ?_|refine DK.tt rfl Ia ?_|refine DK.ff rfl Ia ?_|refine DK.st rfl ?_|refine DK.ar rfl rfl vI ?_|refine DK.len rfl rfl rfl ?_|refine DK.nil ?_));exact hq.k)):p:=h ⟨k⟩
theorem ny {p q:Prop} (k:q) (h:dA q->p:=by (intro hq;(repeat (first|refine CW ?_|refine YK ?_);(first|refine (?_:W _ _ _ _ _)|refine (?_:WL _ _ _ _ _ _)|skip);try dsimp only [St.put,Nat.reduceAdd]);exact hq.k)):p:=h ⟨k⟩
theorem adP {p q:Prop} (k:q) (h:dA q->p:=by (intro hq;(repeat (first|refine BU ?_|refine WL.ar rfl rfl vI ?_|refine WL.ixs rfl rfl wY ?_);(first|refine (?_:W _ _ _ _ _)|refine (?_:WL _ _ _ _ _ _)|skip);try dsimp only [St.put,Nat.reduceAdd]);exact hq.k)):p:=h ⟨k⟩
theorem ari {p q:Prop} (k:q) (h:dA q->p:=by (intro hq;(repeat (first|refine qj ?_|refine adT ?_|refine WL.ixs rfl rfl wY ?_);(first|refine (?_:W _ _ _ _ _)|refine (?_:WL _ _ _ _ _ _)|skip);try dsimp only [St.put,Nat.reduceAdd]);exact hq.k)):p:=h ⟨k⟩
theorem Jm {p q:Prop} (k:q) (h:dA q->p:=by (intro hq;(repeat (first|refine qj ?_|refine WL.e1 rfl ?_|refine uf ?_|refine rU ?_);(first|refine (?_:W _ _ _ _ _)|refine (?_:WL _ _ _ _ _ _)|skip);try dsimp only [St.put,Nat.reduceAdd]);exact hq.k)):p:=h ⟨k⟩
theorem nC {p q:Prop} (k:q) (h:dA q->p:=by (intro hq;(repeat (first|refine WL.vl rfl (WV.IC rfl rfl) ?_|refine CW ?_|refine WL.len rfl rfl rfl ?_|refine kK ?_);(first|refine (?_:W _ _ _ _ _)|refine (?_:WL _ _ _ _ _ _)|skip);try dsimp only [St.put,Nat.reduceAdd]);exact hq.k)):p:=h ⟨k⟩
theorem x9 {p q:Prop} (k:q) (h:dA q->p:=by (intro hq;(repeat (first|refine lM ?_|refine Oe ?_|refine FW ?_);(first|refine (?_:W _ _ _ _ _)|refine (?_:WL _ _ _ _ _ _)|skip);try dsimp only [St.put,Nat.reduceAdd]);exact hq.k)):p:=h ⟨k⟩
theorem gI {p q:Prop} (k:q) (h:dA q->p:=by (intro hq;(repeat (first|refine YJ ?_|refine H9 ?_|refine Oe ?_|refine kK ?_);(first|refine (?_:W _ _ _ _ _)|refine (?_:WL _ _ _ _ _ _)|skip);try dsimp only [St.put,Nat.reduceAdd]);exact hq.k)):p:=h ⟨k⟩
theorem YE {p q:Prop} (k:q) (h:dA q->p:=by (intro hq;(repeat (first|refine qj ?_|refine WL.e1 rfl ?_|refine YK ?_);(first|refine (?_:W _ _ _ _ _)|refine (?_:WL _ _ _ _ _ _)|skip);try dsimp only [St.put,Nat.reduceAdd]);exact hq.k)):p:=h ⟨k⟩
theorem adQ {p q:Prop} (k:q) (h:dA q->p:=by(intro hq;(repeat(first|refine W.gob rfl ?_|refine WL.nil ?_|refine WL.e1 rfl ?_);(first|refine(?_:W _ _ _ _ _)|refine(?_:WL _ _ _ _ _ _)|skip);try dsimp only [St.put,Nat.reduceAdd]);exact hq.k)):p:=h ⟨k⟩
theorem Ro {p q:Prop} (k:q) (h:dA q->p:=by (intro hq;(repeat (first|refine qj ?_|refine WL.e1 rfl ?_|refine JF ?_|refine kK ?_);(first|refine (?_:W _ _ _ _ _)|refine (?_:WL _ _ _ _ _ _)|skip);try dsimp only [St.put,Nat.reduceAdd]);exact hq.k)):p:=h ⟨k⟩
theorem YF {p q:Prop} (k:q) (h:dA q->p:=by (intro hq;(repeat (first|refine qj ?_|refine WL.bt rfl rfl rfl (by omega) ?_|refine WL.e1 rfl ?_|refine uf ?_|refine kK ?_);(first|refine (?_:W _ _ _ _ _)|refine (?_:WL _ _ _ _ _ _)|skip);try dsimp only [St.put,Nat.reduceAdd]);exact hq.k)):p:=h ⟨k⟩
theorem akK {p q:Prop} (k:q) (h:dA q->p:=by (intro hq;(repeat (first|refine BU ?_|refine rU ?_);(first|refine (?_:W _ _ _ _ _)|refine (?_:WL _ _ _ _ _ _)|skip);try dsimp only [St.put,Nat.reduceAdd]);exact hq.k)):p:=h ⟨k⟩
theorem arj {p q:Prop} (k:q) (h:dA q->p:=by (intro hq;(repeat (first|refine Jp ?_|refine WL.len rfl rfl JG ?_);(first|refine (?_:W _ _ _ _ _)|refine (?_:WL _ _ _ _ _ _)|skip);try dsimp only [St.put,Nat.reduceAdd]);exact hq.k)):p:=h ⟨k⟩
theorem ayb {p q:Prop} (k:q) (h:dA q->p:=by (intro hq;(repeat (first|refine Jp ?_|refine WL.ar rfl rfl vI ?_);(first|refine (?_:W _ _ _ _ _)|refine (?_:WL _ _ _ _ _ _)|skip);try dsimp only [St.put,Nat.reduceAdd]);exact hq.k)):p:=h ⟨k⟩
theorem ark {p q:Prop} (k:q) (h:dA q->p:=by (intro hq;(repeat (first|refine WL.vl rfl (WV.IC rfl rfl) ?_|refine W.gob rfl ?_|refine WL.e1 rfl ?_);(first|refine (?_:W _ _ _ _ _)|refine (?_:WL _ _ _ _ _ _)|skip);try dsimp only [St.put,Nat.reduceAdd]);exact hq.k)):p:=h ⟨k⟩
theorem YG {p q:Prop} (k:q) (h:dA q->p:=by (intro hq;(repeat (first|refine Jo ?_|refine adT ?_|refine kK ?_);(first|refine (?_:W _ _ _ _ _)|refine (?_:WL _ _ _ _ _ _)|skip);try dsimp only [St.put,Nat.reduceAdd]);exact hq.k)):p:=h ⟨k⟩
theorem akL {p q:Prop} (k:q) (h:dA q->p:=by (intro hq;(repeat (first|refine Oc ?_|refine YK ?_);(first|refine (?_:W _ _ _ _ _)|refine (?_:WL _ _ _ _ _ _)|skip);try dsimp only [St.put,Nat.reduceAdd]);exact hq.k)):p:=h ⟨k⟩
theorem arl {p q:Prop} (k:q) (h:dA q->p:=by (intro hq;(repeat (first|refine DK.vl rfl (WV.IC rfl rfl) ?_|refine DK.bt rfl rfl (by omega) ?_|refine DK.bf rfl rfl (by omega) ?_|refine DK.tt rfl Ia ?_|refine DK.ff rfl Ia ?_|refine DK.st rfl ?_|refine DK.ar rfl rfl vI ?_|refine DK.len rfl rfl JG ?_|refine DK.idx rfl rfl (by omega) abD ?_|refine DK.nil ?_));exact hq.k)):p:=h ⟨k⟩
theorem arn {p q:Prop} (k:q) (h:dA q->p:=by (intro hq;(repeat (first|refine DK.vl rfl (WV.IC rfl rfl) ?_|refine DK.bt rfl rfl (by omega) ?_|refine DK.bf rfl rfl (by omega) ?_|refine DK.tt rfl Ia ?_|refine DK.ff rfl Ia ?_|refine DK.st rfl ?_|refine DK.ar rfl rfl vI ?_|refine DK.len rfl rfl rfl ?_|refine DK.nil ?_));exact hq.k)):p:=h ⟨k⟩
theorem gJ {p q:Prop} (k:q) (h:dA q->p:=by (intro hq;(repeat (first|refine WL.vl rfl (WV.IC rfl rfl) ?_|refine WL.vl rfl (WV.axw rfl rfl) ?_|refine lM ?_|refine Og ?_|refine FV ?_);(first|refine (?_:W _ _ _ _ _)|refine (?_:WL _ _ _ _ _ _)|skip);try dsimp only [St.put,Nat.reduceAdd]);exact hq.k)):p:=h ⟨k⟩
theorem N7 {p q:Prop} (k:q) (h:dA q->p:=by (intro hq;(repeat (first|refine YJ ?_|refine WL.nf rfl rfl rfl (by omega) ?_|refine WL.e1 rfl ?_|refine FV ?_);(first|refine (?_:W _ _ _ _ _)|refine (?_:WL _ _ _ _ _ _)|skip);try dsimp only [St.put,Nat.reduceAdd]);exact hq.k)):p:=h ⟨k⟩
theorem AZ {p q:Prop} (k:q) (h:dA q->p:=by (intro hq;(repeat (first|refine Oc ?_|refine uf ?_|refine rU ?_);(first|refine (?_:W _ _ _ _ _)|refine (?_:WL _ _ _ _ _ _)|skip);try dsimp only [St.put,Nat.reduceAdd]);exact hq.k)):p:=h ⟨k⟩
theorem yc {p q:Prop} (k:q) (h:dA q->p:=by (intro hq;(repeat (first|refine Oc ?_|refine WL.ar rfl rfl vI ?_|refine WL.len rfl rfl rfl ?_|refine rU ?_);(first|refine (?_:W _ _ _ _ _)|refine (?_:WL _ _ _ _ _ _)|skip);try dsimp only [St.put,Nat.reduceAdd]);exact hq.k)):p:=h ⟨k⟩
theorem akM {p q:Prop} (k:q) (h:dA q->p:=by (intro hq;(repeat (first|refine Oc ?_|refine wZ ?_|refine uf ?_|refine FW ?_);(first|refine (?_:W _ _ _ _ _)|refine (?_:WL _ _ _ _ _ _)|skip);try dsimp only [St.put,Nat.reduceAdd]);exact hq.k)):p:=h ⟨k⟩
theorem N8 {p q:Prop} (k:q) (h:dA q->p:=by (intro hq;(repeat (first|refine Oc ?_|refine Oe ?_|refine FW ?_);(first|refine (?_:W _ _ _ _ _)|refine (?_:WL _ _ _ _ _ _)|skip);try dsimp only [St.put,Nat.reduceAdd]);exact hq.k)):p:=h ⟨k⟩
theorem lK {p q:Prop} (k:q) (h:dA q->p:=by (intro hq;(repeat (first|refine WL.vl rfl (WV.IC rfl rfl) ?_|refine WL.vl rfl (WV.axw rfl rfl) ?_|refine qj ?_|refine H9 ?_|refine wZ ?_|refine kK ?_);(first|refine (?_:W _ _ _ _ _)|refine (?_:WL _ _ _ _ _ _)|skip);try dsimp only [St.put,Nat.reduceAdd]);exact hq.k)):p:=h ⟨k⟩
theorem aro {p q:Prop} (k:q) (h:dA q->p:=by (intro hq;(repeat (first|refine Jo ?_|refine WL.e1 rfl ?_|refine W.yY rfl ?_);(first|refine (?_:W _ _ _ _ _)|refine (?_:WL _ _ _ _ _ _)|skip);try dsimp only [St.put,Nat.reduceAdd]);exact hq.k)):p:=h ⟨k⟩
theorem adR {p q:Prop} (k:q) (h:dA q->p:=by (intro hq;(repeat (first|refine Jo ?_|refine WL.e1 rfl ?_|refine kK ?_);(first|refine (?_:W _ _ _ _ _)|refine (?_:WL _ _ _ _ _ _)|skip);try dsimp only [St.put,Nat.reduceAdd]);exact hq.k)):p:=h ⟨k⟩
theorem qg {p q:Prop} (k:q) (h:dA q->p:=by (intro hq;(repeat (first|refine Jo ?_|refine WL.bf rfl rfl rfl (by omega) ?_|refine adT ?_|refine WL.len rfl rfl rfl ?_|refine kK ?_);(first|refine (?_:W _ _ _ _ _)|refine (?_:WL _ _ _ _ _ _)|skip);try dsimp only [St.put,Nat.reduceAdd]);exact hq.k)):p:=h ⟨k⟩
theorem gY {p q:Prop} (k:q) (h:dA q->p:=by (intro hq;(repeat (first|refine YJ ?_|refine H9 ?_|refine Oe ?_|refine rU ?_);(first|refine (?_:W _ _ _ _ _)|refine (?_:WL _ _ _ _ _ _)|skip);try dsimp only [St.put,Nat.reduceAdd]);exact hq.k)):p:=h ⟨k⟩
theorem N9 {p q:Prop} (k:q) (h:dA q->p:=by (intro hq;(repeat (first|refine lM ?_|refine wZ ?_|refine JF ?_|refine rU ?_);(first|refine (?_:W _ _ _ _ _)|refine (?_:WL _ _ _ _ _ _)|skip);try dsimp only [St.put,Nat.reduceAdd]);exact hq.k)):p:=h ⟨k⟩
theorem FU {p q:Prop} (k:q) (h:dA q->p:=by (intro hq;(repeat (first|refine lM ?_|refine JF ?_|refine rU ?_);(first|refine (?_:W _ _ _ _ _)|refine (?_:WL _ _ _ _ _ _)|skip);try dsimp only [St.put,Nat.reduceAdd]);exact hq.k)):p:=h ⟨k⟩
theorem sQ {p q:Prop} (k:q) (h:dA q->p:=by (intro hq;(repeat (first|refine UH ?_|refine H9 ?_|refine kK ?_);(first|refine (?_:W _ _ _ _ _)|refine (?_:WL _ _ _ _ _ _)|skip);try dsimp only [St.put,Nat.reduceAdd]);exact hq.k)):p:=h ⟨k⟩
theorem qh {p q:Prop} (k:q) (h:dA q->p:=by (intro hq;(repeat (first|refine UH ?_|refine H9 ?_|refine uf ?_|refine rU ?_);(first|refine (?_:W _ _ _ _ _)|refine (?_:WL _ _ _ _ _ _)|skip);try dsimp only [St.put,Nat.reduceAdd]);exact hq.k)):p:=h ⟨k⟩
theorem arp {p q:Prop} (k:q) (h:dA q->p:=by (intro hq;(repeat (first|refine qj ?_|refine WL.e1 rfl ?_|refine WL.len rfl rfl JG ?_|refine W.yY rfl ?_);(first|refine (?_:W _ _ _ _ _)|refine (?_:WL _ _ _ _ _ _)|skip);try dsimp only [St.put,Nat.reduceAdd]);exact hq.k)):p:=h ⟨k⟩
theorem zl {p q:Prop} (k:q) (h:dA q->p:=by (intro hq;(repeat (first|refine CW ?_|refine uf ?_|refine kK ?_);(first|refine (?_:W _ _ _ _ _)|refine (?_:WL _ _ _ _ _ _)|skip);try dsimp only [St.put,Nat.reduceAdd]);exact hq.k)):p:=h ⟨k⟩
theorem arq {p q:Prop} (k:q) (h:dA q->p:=by (intro hq;(repeat (first|refine qj ?_|refine WL.e1 rfl ?_|refine WL.len rfl rfl JG ?_);(first|refine (?_:W _ _ _ _ _)|refine (?_:WL _ _ _ _ _ _)|skip);try dsimp only [St.put,Nat.reduceAdd]);exact hq.k)):p:=h ⟨k⟩
theorem Oa {p q:Prop} (k:q) (h:dA q->p:=by (intro hq;(repeat (first|refine lM ?_|refine Og ?_|refine rU ?_);(first|refine (?_:W _ _ _ _ _)|refine (?_:WL _ _ _ _ _ _)|skip);try dsimp only [St.put,Nat.reduceAdd]);exact hq.k)):p:=h ⟨k⟩
theorem Ob {p q:Prop} (k:q) (h:dA q->p:=by (intro hq;(repeat (first|refine lM ?_|refine WL.ar rfl rfl vI ?_|refine kK ?_);(first|refine (?_:W _ _ _ _ _)|refine (?_:WL _ _ _ _ _ _)|skip);try dsimp only [St.put,Nat.reduceAdd]);exact hq.k)):p:=h ⟨k⟩
theorem adS {p q:Prop} (k:q) (h:dA q->p:=by (intro hq;(repeat (first|refine qj ?_|refine H9 ?_|refine kK ?_);(first|refine (?_:W _ _ _ _ _)|refine (?_:WL _ _ _ _ _ _)|skip);try dsimp only [St.put,Nat.reduceAdd]);exact hq.k)):p:=h ⟨k⟩
theorem wE {p q:Prop} (k:q) (h:dA q->p:=by (intro hq;(repeat (first|refine UH ?_|refine H9 ?_|refine Og ?_|refine WL.div rfl rfl (by omega) ?_|refine YK ?_);(first|refine (?_:W _ _ _ _ _)|refine (?_:WL _ _ _ _ _ _)|skip);try dsimp only [St.put,Nat.reduceAdd]);exact hq.k)):p:=h ⟨k⟩
theorem UD {p q:Prop} (k:q) (h:dA q->p:=by (intro hq;(repeat (first|refine CW ?_|refine JF ?_|refine FW ?_);(first|refine (?_:W _ _ _ _ _)|refine (?_:WL _ _ _ _ _ _)|skip);try dsimp only [St.put,Nat.reduceAdd]);exact hq.k)):p:=h ⟨k⟩
theorem qI {p q:Prop} (k:q) (h:dA q->p:=by (intro hq;(repeat (first|refine UH ?_|refine H9 ?_|refine Oe ?_|refine FW ?_);(first|refine (?_:W _ _ _ _ _)|refine (?_:WL _ _ _ _ _ _)|skip);try dsimp only [St.put,Nat.reduceAdd]);exact hq.k)):p:=h ⟨k⟩
theorem abz {p q:Prop} (k:q) (h:dA q->p:=by(intro hq;(repeat(first|refine W.go rfl ?_|refine WL.nil ?_|refine WL.ev rfl ?_|refine WL.VP rfl rfl rfl rfl ?_|refine WL.auG rfl rfl rfl rfl rfl rfl rfl ?_|refine W.yY rfl ?_|refine W.uz rfl ?_);(first|refine(?_:W _ _ _ _ _)|refine(?_:WL _ _ _ _ _ _)|skip);try dsimp only [St.put,Nat.reduceAdd]);exact hq.k)):p:=h ⟨k⟩
theorem avp {p q:Prop} (k:q) (h:dA q->p:=by (intro hq;(repeat (first|refine CW ?_|refine kK ?_);(first|refine (?_:W _ _ _ _ _)|refine (?_:WL _ _ _ _ _ _)|skip);try dsimp only [St.put,Nat.reduceAdd]);exact hq.k)):p:=h ⟨k⟩
theorem H8 {p q:Prop} (k:q) (h:dA q->p:=by (intro hq;(repeat (first|refine BU ?_|refine Og ?_|refine kK ?_);(first|refine (?_:W _ _ _ _ _)|refine (?_:WL _ _ _ _ _ _)|skip);try dsimp only [St.put,Nat.reduceAdd]);exact hq.k)):p:=h ⟨k⟩
theorem vG {p q:Prop} (k:q) (h:dA q->p:=by (intro hq;(repeat (first|refine lM ?_|refine Og ?_|refine kK ?_);(first|refine (?_:W _ _ _ _ _)|refine (?_:WL _ _ _ _ _ _)|skip);try dsimp only [St.put,Nat.reduceAdd]);exact hq.k)):p:=h ⟨k⟩
theorem akC {p q:Prop} (k:q) (h:dA q->p:=by (intro hq;(repeat (first|refine BU ?_|refine wZ ?_|refine uf ?_|refine kK ?_);(first|refine (?_:W _ _ _ _ _)|refine (?_:WL _ _ _ _ _ _)|skip);try dsimp only [St.put,Nat.reduceAdd]);exact hq.k)):p:=h ⟨k⟩
theorem oZ {p q:Prop} (k:q) (h:dA q->p:=by (intro hq;(repeat (first|refine lM ?_|refine wZ ?_|refine uf ?_|refine kK ?_);(first|refine (?_:W _ _ _ _ _)|refine (?_:WL _ _ _ _ _ _)|skip);try dsimp only [St.put,Nat.reduceAdd]);exact hq.k)):p:=h ⟨k⟩
theorem NY {p q:Prop} (k:q) (h:dA q->p:=by (intro hq;(repeat (first|refine Jp ?_|refine wZ ?_|refine WL.cat rfl rfl wY ?_);(first|refine (?_:W _ _ _ _ _)|refine (?_:WL _ _ _ _ _ _)|skip);try dsimp only [St.put,Nat.reduceAdd]);exact hq.k)):p:=h ⟨k⟩
theorem akD {p q:Prop} (k:q) (h:dA q->p:=by (intro hq;(repeat (first|refine WL.vl rfl (WV.IC rfl rfl) ?_|refine CW ?_|refine kK ?_);(first|refine (?_:W _ _ _ _ _)|refine (?_:WL _ _ _ _ _ _)|skip);try dsimp only [St.put,Nat.reduceAdd]);exact hq.k)):p:=h ⟨k⟩
theorem kP {p q:Prop} (k:q) (h:dA q->p:=by (intro hq;(repeat (first|refine YJ ?_|refine WL.nf rfl rfl rfl (by omega) ?_|refine WL.e1 rfl ?_|refine Og ?_|refine kK ?_);(first|refine (?_:W _ _ _ _ _)|refine (?_:WL _ _ _ _ _ _)|skip);try dsimp only [St.put,Nat.reduceAdd]);exact hq.k)):p:=h ⟨k⟩
theorem UE {p q:Prop} (k:q) (h:dA q->p:=by (intro hq;(repeat (first|refine Jo ?_|refine WL.bf rfl rfl rfl (by omega) ?_|refine YI ?_|refine W.uz rfl ?_);(first|refine (?_:W _ _ _ _ _)|refine (?_:WL _ _ _ _ _ _)|skip);try dsimp only [St.put,Nat.reduceAdd]);exact hq.k)):p:=h ⟨k⟩
theorem o7 {p q:Prop} (k:q) (h:dA q->p:=by (intro hq;(repeat (first|refine WL.vl rfl (WV.IC rfl rfl) ?_|refine CW ?_|refine WL.len rfl rfl rfl ?_|refine FV ?_);(first|refine (?_:W _ _ _ _ _)|refine (?_:WL _ _ _ _ _ _)|skip);try dsimp only [St.put,Nat.reduceAdd]);exact hq.k)):p:=h ⟨k⟩
theorem abA {p q:Prop} (k:q) (h:dA q->p:=by (intro hq;(repeat (first|refine lM ?_|refine WL.ar rfl rfl vI ?_|refine FV ?_);(first|refine (?_:W _ _ _ _ _)|refine (?_:WL _ _ _ _ _ _)|skip);try dsimp only [St.put,Nat.reduceAdd]);exact hq.k)):p:=h ⟨k⟩
theorem avq {p q:Prop} (k:q) (h:dA q->p:=by (intro hq;(repeat (first|refine W.go rfl ?_|refine WL.nil ?_|refine WL.ar rfl rfl vI ?_|refine rU ?_);(first|refine (?_:W _ _ _ _ _)|refine (?_:WL _ _ _ _ _ _)|skip);try dsimp only [St.put,Nat.reduceAdd]);exact hq.k)):p:=h ⟨k⟩
theorem akE {p q:Prop} (k:q) (h:dA q->p:=by (intro hq;(repeat (first|refine lM ?_|refine WL.ar rfl rfl vI ?_|refine rU ?_);(first|refine (?_:W _ _ _ _ _)|refine (?_:WL _ _ _ _ _ _)|skip);try dsimp only [St.put,Nat.reduceAdd]);exact hq.k)):p:=h ⟨k⟩
theorem qJ {p q:Prop} (k:q) (h:dA q->p:=by (intro hq;(repeat (first|refine Oc ?_|refine Oe ?_|refine WL.ixs rfl rfl wY ?_|refine rU ?_);(first|refine (?_:W _ _ _ _ _)|refine (?_:WL _ _ _ _ _ _)|skip);try dsimp only [St.put,Nat.reduceAdd]);exact hq.k)):p:=h ⟨k⟩
theorem qK {p q:Prop} (k:q) (h:dA q->p:=by (intro hq;(repeat (first|refine lM ?_|refine Og ?_|refine WL.div rfl rfl (by omega) ?_|refine kK ?_);(first|refine (?_:W _ _ _ _ _)|refine (?_:WL _ _ _ _ _ _)|skip);try dsimp only [St.put,Nat.reduceAdd]);exact hq.k)):p:=h ⟨k⟩
theorem abB {p q:Prop} (k:q) (h:dA q->p:=by(intro hq;(repeat(first|refine W.gob rfl ?_|refine WL.nil ?_|refine WL.e1 rfl ?_|refine W.yY rfl ?_|refine W.uz rfl ?_);(first|refine(?_:W _ _ _ _ _)|refine(?_:WL _ _ _ _ _ _)|skip);try dsimp only [St.put,Nat.reduceAdd]);exact hq.k)):p:=h ⟨k⟩
theorem wX {p q:Prop} (k:q) (h:dA q->p:=by (intro hq;(repeat (first|refine Jp ?_|refine JF ?_|refine WL.app rfl rfl rfl wY ?_);(first|refine (?_:W _ _ _ _ _)|refine (?_:WL _ _ _ _ _ _)|skip);try dsimp only [St.put,Nat.reduceAdd]);exact hq.k)):p:=h ⟨k⟩
theorem UF {p q:Prop} (k:q) (h:dA q->p:=by (intro hq;(repeat (first|refine Jp ?_|refine wZ ?_|refine WL.len rfl rfl JG ?_);(first|refine (?_:W _ _ _ _ _)|refine (?_:WL _ _ _ _ _ _)|skip);try dsimp only [St.put,Nat.reduceAdd]);exact hq.k)):p:=h ⟨k⟩
theorem abC {p q:Prop} (k:q) (h:dA q->p:=by(intro hq;(repeat(first|refine W.go rfl ?_|refine WL.nil ?_|refine WL.ev rfl ?_);(first|refine(?_:W _ _ _ _ _)|refine(?_:WL _ _ _ _ _ _)|skip);try dsimp only [St.put,Nat.reduceAdd]);exact hq.k)):p:=h ⟨k⟩
theorem akF {p q:Prop} (k:q) (h:dA q->p:=by(intro hq;(repeat(first|refine W.go rfl ?_|refine WL.nil ?_);(first|refine(?_:W _ _ _ _ _)|refine(?_:WL _ _ _ _ _ _)|skip);try dsimp only [St.put,Nat.reduceAdd]);exact hq.k)):p:=h ⟨k⟩
theorem avr {p q:Prop} (k:q) (h:dA q->p:=by (intro hq;(repeat (first|refine W.go rfl ?_|refine WL.nil ?_|refine Og ?_|refine WL.neg rfl rfl vI ?_|refine kK ?_);(first|refine (?_:W _ _ _ _ _)|refine (?_:WL _ _ _ _ _ _)|skip);try dsimp only [St.put,Nat.reduceAdd]);exact hq.k)):p:=h ⟨k⟩
theorem UG {p q:Prop} (k:q) (h:dA q->p:=by (intro hq;(repeat (first|refine lM ?_|refine Og ?_|refine WL.neg rfl rfl vI ?_|refine kK ?_);(first|refine (?_:W _ _ _ _ _)|refine (?_:WL _ _ _ _ _ _)|skip);try dsimp only [St.put,Nat.reduceAdd]);exact hq.k)):p:=h ⟨k⟩
def bs(l:List UInt8):ByteArray:=⟨l.toArray⟩
theorem zQ(xs:Array UInt8):(ByteArray.mk xs)=bs xs.toList:=rfl
theorem awd(s:ByteArray):∃ l,s=bs l:=⟨s.data.toList,rfl⟩
theorem dI(l:List UInt8):(bs l).size=l.length:=by simp [bs,ByteArray.size]
theorem ig(l:List UInt8):(bs l).data.toList=l:=by simp [bs]
theorem je (a b:List UInt8):bs a++bs b=bs (a++b):=by apply ByteArray.ext;simp [bs,ByteArray.data_append]
theorem gq (l:List UInt8)(a b:Nat):(bs l).extract a b=bs ((l.drop a).take (b-a)):=by apply ByteArray.ext;simp [bs,ByteArray.data_extract]
theorem jf(l:List UInt8):(bs l).toList=l:=by simp [bs]
def cut (l:List UInt8)(i j:Int):List UInt8:=(l.drop i.toNat).take (j.toNat-i.toNat)
theorem nJ(l:List UInt8)(i j:Int):(cut l i j).length<=l.length:=by simp only [cut,jT,vk];omega
section
variable {P:Program} (w:World)
theorem tV (t:TypeId) (l:List UInt8) (k k':IntKind) (i j:Int) (h:P.underlying t=some .string) (h0:0<=i) (h1:i<=j) (h2:j<=(l.length:Int)) :(Instr.slice t (.string (bs l)) (some (.int k i)) (some (.int k' j)) none).run P w=.ok (.string (bs (cut l i j))) w:=by rw [run_slice_string w t (bs l) k k' i j h h0 h1 (by rw [dI];exact h2),gq];rfl
theorem jZ (t:TypeId)(l:List UInt8)(k':IntKind)(j:Int)(h:P.underlying t=some .string)(h0:0<=j)(h2:j<=(l.length:Int)) :(Instr.slice t (.string (bs l)) none (some (.int k' j)) none).run P w=.ok (.string (bs (cut l 0 j))) w:=by
 have hj:0<=j/\j<=((bs l).size:Int):=⟨h0,by rw [dI];exact h2⟩;rw [run_slice_string_to_if w t (bs l) k' j h,if_pos hj,gq];rfl
theorem iK (t:TypeId) (l:List UInt8) (k:IntKind) (i:Int) (h:P.underlying t=some .string) (h0:0<=i) (h2:i<=(l.length:Int)) :(Instr.slice t (.string (bs l)) (some (.int k i)) none none).run P w=.ok (.string (bs (l.drop i.toNat))) w:=by
 have hj:0<=i/\i<=((bs l).size:Int):=⟨h0,by rw [dI];exact h2⟩;rw [run_slice_string_from_if w t (bs l) k i h,if_pos hj,gq,dI];rw [ou (by simp)]
theorem lG (a b:List UInt8) (h:a.length+b.length<=9223372036854775807):(Op.stringOp .add (bs a) (bs b)).run P w=.ok (.string (bs (a++b))) w:=by rw [run_string_add_sum w (bs a) (bs b) (by rw [dI,dI];exact h),je]
end
theorem Pq {B:Nat} {a w:World} (h:Below B a w) (n:Nat):Below B a (w.drewN n):=h.trans ⟨rfl,rfl,rfl,Nat.le_refl _,λ_ _=>rfl⟩
theorem ahe {a w w':World} (h:Below a.heap.size a w)(hb:Below w.heap.size w w'):Below a.heap.size a w':=h.trans (hb.mono h.size)
theorem Gf {a w:World} (h:Below a.heap.size a w)(o:Obj):Below a.heap.size a (w.alloc o):=h.alloc h.size o
theorem CU {n:Nat} {w w':World} (h:Below n w w':=by repeat (first|exact Below.refl _ _|assumption|refine Pq ?_ _|refine Below.drew ?_|refine Gf ?_ _|refine Below.setCell ?_ wY _|refine ahe ?_ (by assumption))):Below n w w':=h
theorem Po {W w1:World} (hb:Below W.heap.size W w1):(∀ b o,b<W.heap.size->w1.cell? ⟨b,o,none⟩=W.cell? ⟨b,o,none⟩)/\(∀ b o,b<W.heap.size->w1.frozen? ⟨b,o,none⟩=W.frozen? ⟨b,o,none⟩) :=⟨λb o h=>hb.cell (p:=⟨b,o,none⟩) h,λb o h=>hb.frozen (p:=⟨b,o,none⟩) h⟩
theorem y9 {P:Program} (w:World) (b:Nat) (e:TypeId) (cs:Array Value) (hb:w.heap[b]?=some (.cells cs e (0,0))) (h0:P.cellsOf e=0):(partAt ⟨b,0,none⟩ 0 0).run P w=.ok ⟨b,0,none⟩ w:=by
 have hs:w.shape? b=some (e,cs.size):=by simp [World.shape?,hb]
 simp [partAt,byteOf,noView,viewAt,hs,h0]
theorem Ip (w:World)(o o':Obj):((w.alloc o).alloc o').heap[w.heap.size]?=some o:=by rw [Below.heap_alloc _ _ _ (by simp)];exact heap_alloc_new w o
def yV (w:World)(g:Nat)(t:TypeId)(cs:Array Value):Prop:=w.heap[g]?=some (.cells cs t (0,0))
section
variable {w w':World} {g:Nat} {t:TypeId} {cs:Array Value}
theorem yV.lt(h:yV w g t cs):g<w.heap.size:=by
 rcases FM g w.heap.size with hlt|hge;.exact hlt
 .unfold yV at h;rw [abt hge]at h;cases h
theorem yV.cell (h:yV w g t cs) (i:Nat):w.cell? ⟨g,i,none⟩=cs[i]?:=cell_of_row w g i cs t (0,0) h
theorem yV.frozen (h : yV w g t cs) (i : Nat) : w.frozen? ⟨g, i, none⟩ = false := by
  unfold yV at h
  simp [World.frozen?, h]
theorem yV.new (w:World)(t:TypeId)(cs:Array Value):yV (w.alloc (.cells cs t)) w.heap.size t cs:=heap_alloc_new w _
theorem yV.drew(h:yV w g t cs):yV w.drew g t cs:=h
theorem yV.alloc (h:yV w g t cs)(o:Obj):yV (w.alloc o) g t cs:=(Below.heap_alloc w o g h.lt).trans h
theorem yV.after(h:yV w g t cs)(hb:Below w.heap.size w w'):yV w' g t cs:=(hb.block g h.lt).trans h
end
def iZ(v:Value)(W:World)(e:Ending)(w':World):Prop:=e=.returned v/\Below W.heap.size W w'
theorem iZ.mk' {v v':Value} {W w':World} (h:v'=v)(hb:Below W.heap.size W w'):iZ v W (.returned v') w':=⟨by rw [h],hb⟩
theorem Qs (w:World) (e:TypeId) (size n:Nat) (cs:Array Value) (hn:n<=maxLen) (hs:cs.size=n*size) :(w.alloc (.cells cs e)).ownsRow w.heap.size e size (.slice (some ⟨w.heap.size,0,none⟩) n n) n cs.toList :=⟨by simpa using hs,.inr ⟨w.heap.size,n,cs,rfl,Nat.le_refl _,heap_alloc_new w _,Nat.le_refl _,hn,hs,by simp_all[ou]⟩⟩
theorem OJ(g j:Nat):(⟨g,0,none⟩:Addr).add j =⟨g,j,none⟩:=by simp_all[Addr.add]
theorem yI {w:World} {base B:Nat} {e:TypeId} {size n:Nat} {v:Value} {xs:List Value} (h:w.ownsRow base e size v n xs) (hB:B<=base):w.ownsRow B e size v n xs:=by
 rcases h with⟨h1,h2|⟨g,cap,cur,hv,hbg,h3⟩⟩;.exact ⟨h1,.inl h2⟩
 .exact ⟨h1,.inr ⟨g,cap,cur,hv,by omega,h3⟩⟩
theorem lU(a:Addr)(n:Nat):(a.add n).block=a.block:=by unfold Addr.add;split<;>rfl
theorem yw (a:Addr)(i j:Nat):(a.add i).add j=a.add (i+j):=by
 unfold Addr.add;by_cases hi:i=0<;>by_cases hj:j=0<;>simp [hi,hj,Q9]
theorem aeh (ad:Addr)(i j:Nat)(h:0<j):ad.add (i+j) =⟨(ad.add i).block,(ad.add i).off+j,none⟩:=by
 rw [← yw];generalize ad.add i=b;unfold Addr.add;rw [if_neg (by omega)]
def Rd (w:World)(B size:Nat)(A:Option Addr)(l:List (List Value)):Prop :=0<l.length->∃ ad,A=some ad/\ad.block<B/\∀ k r,l[k]?=some r->∀ j u,r[j]?=some u->w.cell? (ad.add (k*size+j))=some u
section
variable {w w':World} {B B' size:Nat} {A:Option Addr} {l:List (List Value)}
theorem Rd.none_:Rd w B size A []:=λh=>absurd h (by simp)
theorem Rd.at_ {k:Nat} (h:Rd w B size A l)(hk:k<l.length):∃ ad,A=some ad/\ad.block<B/\∀ j u,(l[k])[j]?=some u->w.cell? (ad.add (k*size+j))=some u:=by
 obtain⟨ad,e,hb,hc⟩:=h au;exact⟨ad,e,hb,λj u hu=>hc k _ (aO hk) j u hu⟩
theorem Rd.keep (h:Rd w B size A l)(hk:∀ p:Addr,p.block<B->w'.cell? p=w.cell? p):Rd w' B size A l:=λhn=>by
 obtain⟨ad,e,hb,hc⟩:=h hn;exact⟨ad,e,hb,λk r hr j u hu=>(hk _ (by rw [lU];exact hb)).trans (hc k r hr j u hu)⟩
theorem Rd.more(h:Rd w B size A l)(hB:B<=B'):Rd w B' size A l:=λhn=>by
 obtain⟨ad,e,hb,hc⟩:=h hn;exact⟨ad,e,by omega,hc⟩
end
theorem Zi {size:Nat}:∀ {l:List (List Value)},(∀ r∈l,r.length=size)->∀ k r,l[k]?=some r->∀ j u,r[j]?=some u->l.flatten[k*size+j]?=some u:=by
 intro l;induction l with
 | nil=>simp| cons x t ih =>
  intro hl k r hr j u hu;have hx:x.length=size:=hl x (by simp);cases k<;>grind
theorem nS {size:Nat}:∀ {l:List (List Value)},(∀ r∈l,r.length=size)->l.flatten.length=l.length*size:=by
 intro l;induction l<;>grind
theorem VJ {size:Nat}:∀ {l:List (List Value)},(∀ r∈l,r.length=size)->∀ i u,l.flatten[i]?=some u->∃ k r j,l[k]?=some r/\r[j]?=some u/\i=k*size+j:=by
 intro l;induction l with
 | nil=>simp| cons x t ih =>
  intro hl i u h;have hx:x.length=size:=hl x (by simp);rw [NR] at h;by_cases e:i<x.length
  .rw [xY e] at h;exact⟨0,x,i,by simp,h,by simp⟩
  .rw [wC (by omega)] at h;obtain⟨k,r,j,a,b,c⟩:=ih (λr h=>hl r CZ) _ _ h;exact⟨k+1,r,j,by simpa using a,b,by rw [Rf];omega⟩
section
variable {P:Program} {w w':World} {B B' size:Nat} {A:Option Addr} {l:List (List Value)}
theorem BG {base:Nat} {e:TypeId} {v:Value} {n:Nat} {xs:List Value} (h:w.ownsRow base e size v n xs) (hl:∀ r∈l,r.length=size) (hxs:xs=l.flatten) (hn:n=l.length) :∃ A c,v=.slice A n c/\Rd w w.heap.size size A l/\(∀ ad,A=some ad->v.ownBlock=some ad.block/\base<=ad.block)/\n<=c:=by
 rcases h.2 with⟨rfl,h0⟩|⟨g,cap,cur,rfl,hb,hh,hnc,hcm,hcs,ht⟩;.grind[Rd.none_]
 .refine ⟨some ⟨g,0,none⟩,cap,rfl,λhpos=>⟨⟨g,0,none⟩,rfl,?_,λk r hr j u hu=>?_⟩,(λad h=>by injection h with h;subst h;exact ⟨rfl,hb⟩),hnc⟩;.grind
  .have h1:=Zi hl k r hr j u hu;grind[OJ,cell_of_row]
theorem CB (base:Nat) (t ty e:TypeId) (i:TypeInfo) (z:Value) (size bytes:Nat) (ht:P.underlying t=some (.slice e)) (hi:P.info? e=some i) (hz:i.zero=some z)(hsize:i.size=size) (hby:i.bytes=bytes) (hzs:z.cells.size=size) (hsz:0<size)(v:Value) (n:Nat) (xs:List Value) (hown:w.ownsRow base e size v n xs)(c:Nat) (hr:Rd w B size A l) (hl:∀ r∈l,r.length=size) (h1:∀ r∈l,∀ u∈r,u.oneCell'=true)(h63:n+l.length<=maxLen) (hbytes:(n+l.length)*bytes<=140737488355328) (hbase:base<=w.heap.size) :∃ v' w',(Builtin.append_ #[t,t] ty #[v,.slice A l.length c]).run P w=.ok v' w'/\w'.ownsRow base e size v' (n+l.length) (xs++l.flatten)/\w.grownBy w' v.ownBlock /\(v'.ownBlock=v.ownBlock\/v'.ownBlock=some w.heap.size):=by
 rcases A with _|ad
 .have hm:l=[]:=by
   rcases abu l.length with h0|h0;.exact sN h0
   .obtain ⟨ad,h,_⟩:=hr h0;cases h
  subst hm;refine ⟨v,w,?_,by simpa using hown,World.grownBy.refl w _,.inl rfl⟩;rcases hown.2 with⟨rfl,rfl⟩|⟨g,cap,cur,rfl,_,_,hnc,_⟩;.simp [Builtin.append_,run_underlying ht,sizeOf,typeInfo,hi,Builtin.lenOf,Builtin.firstCells]
  .simp [Builtin.append_,run_underlying ht,sizeOf,typeInfo,hi,Builtin.lenOf,Builtin.firstCells,hnc,storeCells]
 .have hcells:∀ j u,l.flatten[j]?=some u->w.cell? (ad.add j)=some u:=by
   intro j u hu;obtain ⟨k,r,q,hk,hq,rfl⟩:=VJ hl j u hu;have hpos:0<l.length:=by have:=(List.getElem?_eq_some_iff.1 hk).1;omega
   obtain ⟨ad',h,_,hc⟩:=hr hpos;injection h with h;subst h;exact hc k r hk q u hq
  obtain ⟨v',w',hrun,h2,h3,_,h5⟩:=run_append_own_at (P:=P) w base t ty e i z size bytes ht hi hz hsize hby hzs hsz v n xs hown ad l.length c l.flatten (nS hl) hcells (λu hu=>by obtain ⟨r,hr1,hr2⟩:=List.mem_flatten.1 hu;exact h1 r hr1 u hr2) h63 hbytes hbase;exact ⟨v',w',hrun,h2,h3,h5⟩
end
def sS(b:Nat)(w w':World):Prop:=b<w.heap.size/\w.heap.size<=w'.heap.size/\w'.heap[b]?=w.heap[b]?
theorem sS.refl {b:Nat} {w:World} (h:b<w.heap.size):sS b w w:=⟨h,Nat.le_refl _,rfl⟩
theorem sS.drew {b:Nat} {w w':World} (h:sS b w w'):sS b w w'.drew:=h
theorem sS.alloc {b:Nat} {w w':World} (h:sS b w w')(o:Obj):sS b w (w'.alloc o) :=⟨h.1,gX h.2.1 (by simp),(Below.heap_alloc _ _ _ (oD h.1 h.2.1)).trans h.2.2⟩
theorem sS.grown {b g:Nat} {w w' w'':World} (h:sS b w w') (hg:w'.grownBy w'' (some g)) (hne:b≠g):sS b w w'' :=⟨h.1,gX h.2.1 hg.size,(hg.block b (oD h.1 h.2.1) (by simpa using hne)).trans h.2.2⟩
theorem sS.setCell {b:Nat} {w w':World} (h:sS b w w') {p:Addr} (hne:b≠p.block)(u:Value):sS b w (w'.setCell p u) :=⟨h.1,by simpa [World.setCell]using h.2.1,(Below.heap_setCell _ _ _ _ hne).trans h.2.2⟩
inductive AV where| sc (v:Value)| ag (l:List AV)| tu (l:List AV)| ls (n:Nat)(rows:List (List AV))| ow (T:TypeId)(n:Nat)(rows:List (List AV))| pr (cells:List AV)| pt (k i j:Nat)| sl (k:Nat)| fn (f:FuncId)(caps:List AV)
def fnV (f:FuncId)(cs:Array Value):Value:=bif Nat.blt f 1000000 then .func (.func f) #[] cs else .func (.func (f-1000000)) cs #[]
theorem Zj {f:FuncId} (h:Nat.blt f 1000000=true)(cs:Array Value):fnV f cs=.func (.func f) #[] cs:=by unfold fnV;rw [h];rfl
theorem ato (f:FuncId) (cs:Array Value):fnV (f+1000000) cs=.func (.func f) cs #[]:=by
 unfold fnV;have h:Nat.blt (f+1000000) 1000000=false:=by cases e:Nat.blt (f+1000000) 1000000 with
  | false=>rfl| true=>exact absurd (bG e) au
 rw [h];show Value.func (.func (f+1000000-1000000)) cs #[]=_;rw [Nat.add_sub_cancel]
theorem Zk(f:FuncId)(cs:Array Value):∃ g x y,fnV f cs=.func g x y:=by
 unfold fnV;cases Nat.blt f 1000000;.exact⟨_,_,_,rfl⟩
 .exact⟨_,_,_,rfl⟩
abbrev View:=Addr->Option Value
inductive RP (F:View):AV->Value->Prop| sc (v:Value):RP F (.sc v) v| ag (l:List AV) (cs:Array Value):cs.size=l.length->(∀ (i:Nat) av u,l[i]?=some av->cs[i]?=some u->RP F av u)->RP F (.ag l) (.agg cs)| tu (l:List AV) (cs:Array Value):cs.size=l.length->(∀ (i:Nat) av u,l[i]?=some av->cs[i]?=some u->RP F av u)->RP F (.tu l) (.tuple cs)| ls (n:Nat) (rows:List (List AV)) (A:Option Addr) (cap:Nat) (ad:Addr) (u:Nat->Nat->Value):rows.length<=cap->(∀ r∈rows,r.length=n)->(0<rows.length->A=some ad) ->(∀ (i:Nat) r (j:Nat) av,rows[i]?=some r->r[j]?=some av->F (ad.add (i*n+j))=some (u i j)/\(u i j).oneCell'=true) ->(∀ (i:Nat) r (j:Nat) av,rows[i]?=some r->r[j]?=some av->RP F av (u i j))->RP F (.ls n rows) (.slice A rows.length cap)| pr (cells:List AV) (p:Addr) (u:Nat->Value):(∀ (j:Nat) av,cells[j]?=some av->F (p.add j)=some (u j)/\(u j).oneCell'=true) ->(∀ (j:Nat) av,cells[j]?=some av->RP F av (u j))->RP F (.pr cells) (.pointer (some p))| fn (f:FuncId) (l:List AV) (cs:Array Value):cs.size=l.length->(∀ (i:Nat) av u,l[i]?=some av->cs[i]?=some u->RP F av u)->RP F (.fn f l) (fnV f cs)
def View.le(F F':View):Prop:=∀ p u,F p=some u->F' p=some u
theorem RP.mono {F F':View} (h:F.le F') {av:AV} {v:Value} (r:RP F av v):RP F' av v:=by induction r with
 | sc v=>exact .sc v| ag l cs h1 _ ih=>exact .ag l cs h1 ih| tu l cs h1 _ ih=>exact .tu l cs h1 ih| ls n rows A cap ad u h0 h1 h2 h3 _ ih=>exact .ls n rows A cap ad u h0 h1 h2 (λi r j av a b=>⟨h _ _ (h3 i r j av a b).1,(h3 i r j av a b).2⟩) ih| pr cells p u h1 _ ih=>exact .pr cells p u (λj av a=>⟨h _ _ (h1 j av a).1,(h1 j av a).2⟩) ih| fn f l cs h1 _ ih=>exact .fn f l cs h1 ih
structure Gh where
 F:View
 b:Nat->Nat
 n:Nat->Nat
 h:Nat->Value
 fp:Nat->Nat->Prop
inductive R (G:Gh):AV->Value->Prop| pu (av:AV) (v:Value):RP G.F av v->R G av v| pt (k i j:Nat) (p:Addr):p.block=G.b k->p.off=i*G.n k+j->p.spot=none->R G (.pt k i j) (.pointer (some p))| sl (k:Nat):(G.h k).oneCell'=true->R G (.sl k) (G.h k)| ag (l:List AV) (cs:Array Value):cs.size=l.length->(∀ (i:Nat)av u,l[i]?=some av->cs[i]?=some u->R G av u)->R G (.ag l) (.agg cs)| tu (l:List AV) (cs:Array Value):cs.size=l.length->(∀ (i:Nat)av u,l[i]?=some av->cs[i]?=some u->R G av u)->R G (.tu l) (.tuple cs)| fn (f:FuncId) (l:List AV) (cs:Array Value):cs.size=l.length->(∀ (i:Nat)av u,l[i]?=some av->cs[i]?=some u->R G av u)->R G (.fn f l) (fnV f cs)
inductive Bd (nk:Nat):AV->Prop| sc (v:Value):Bd nk (.sc v)| ls (n:Nat)(rows:List (List AV)):Bd nk (.ls n rows)| ow (T:TypeId)(n:Nat)(rows:List (List AV)):Bd nk (.ow T n rows)| pr (cells:List AV):Bd nk (.pr cells)| pt (k i j:Nat):k<nk->Bd nk (.pt k i j)| sl (k:Nat):k<nk->Bd nk (.sl k)| ag (l:List AV):(∀ (i:Nat)x,l[i]?=some x->Bd nk x)->Bd nk (.ag l)| tu (l:List AV):(∀ (i:Nat)x,l[i]?=some x->Bd nk x)->Bd nk (.tu l)| fn (f:FuncId)(l:List AV):(∀ (i:Nat)x,l[i]?=some x->Bd nk x)->Bd nk (.fn f l)
theorem Bd.mono {nk bP:Nat} (h:nk<=bP) {av:AV} (b:Bd nk av):Bd bP av:=by induction b with
 | sc v=>exact .sc v| ls n rows=>exact .ls n rows| ow T n rows=>exact .ow T n rows| pr cells=>exact .pr cells| pt k i j hk=>exact .pt k i j au| sl k hk=>exact .sl k au| ag l _ ih=>exact .ag l ih| tu l _ ih=>exact .tu l ih| fn f l _ ih=>exact .fn f l ih
structure Gh.le(G G':Gh)(nk:Nat):Prop where
 F:G.F.le G'.F
 b:∀ k,k<nk->G'.b k=G.b k
 n:∀ k,k<nk->G'.n k=G.n k
 h:∀ k,k<nk->G'.h k=G.h k
theorem Gh.le.refl(G:Gh)(nk:Nat):G.le G nk:=⟨λ_ _ h=>h,λ_ _=>rfl,λ_ _=>rfl,λ_ _=>rfl⟩
theorem R.mono {G G':Gh} {nk:Nat} (h:G.le G' nk) {av:AV} {v:Value} (r:R G av v) (b:Bd nk av):R G' av v:=by induction r with
 | pu av v hp=>exact .pu _ _ (hp.mono h.F)| pt k i j p h1 h2 h3 =>cases b with| pt _ _ _ hk=>exact .pt k i j p (by rw [h.b k hk];exact h1) (by rw [h.n k hk];exact h2) h3
 | sl k h1 =>cases b with| sl _ hk=>rw [← h.h k hk];exact .sl k (by rw [h.h k hk];exact h1)
 | ag l cs h1 _ ih =>cases b with| ag _ hb=>exact .ag l cs h1 λi av u a c=>ih i av u a c (hb i av a)
 | tu l cs h1 _ ih =>cases b with| tu _ hb=>exact .tu l cs h1 λi av u a c=>ih i av u a c (hb i av a)
 | fn f l cs h1 _ ih =>cases b with| fn _ _ hb=>exact .fn f l cs h1 λi av u a c=>ih i av u a c (hb i av a)
theorem RP.fM {F:View} {v u:Value} (r:RP F (.sc v) u):u=v:=by cases r;rfl
theorem R.fM {G:Gh} {v u:Value} (r:R G (.sc v) u):u=v:=by cases r with|pu _ _ h=>exact h.fM
theorem R.E8 {G:Gh} {n:Nat} {rows:List (List AV)} {u:Value} (r:R G (.ls n rows) u):RP G.F (.ls n rows) u:=by cases r<;>omega
theorem R.oO {G:Gh} {cells:List AV} {u:Value} (r:R G (.pr cells) u):RP G.F (.pr cells) u:=by cases r<;>omega
theorem RP.W9 {F:View} {T n:Nat} {rows:List (List AV)} {u:Value} (r:RP F (.ow T n rows) u):False:=by cases r
theorem R.W9 {G:Gh} {T n:Nat} {rows:List (List AV)} {u:Value} (r:R G (.ow T n rows) u):False:=by cases r with|pu _ _ h=>exact h.W9
theorem R.Ed {G:Gh} {l:List AV} {u:Value} (r:R G (.ag l) u):∃ cs:Array Value,u=.agg cs/\cs.size=l.length/\∀ (i:Nat) av u,l[i]?=some av->cs[i]?=some u->R G av u:=by cases r with
 | pu _ _ h=>cases h with|ag _ cs h1 h2=>exact⟨cs,rfl,h1,λi av u a b=>.pu _ _ (h2 i av u a b)⟩
 | ag _ cs h1 h2=>grind
theorem R.Ym {G:Gh} {l:List AV} {u:Value} (r:R G (.tu l) u):∃ cs:Array Value,u=.tuple cs/\cs.size=l.length/\∀ (i:Nat) av u,l[i]?=some av->cs[i]?=some u->R G av u:=by cases r with
 | pu _ _ h=>cases h with|tu _ cs h1 h2=>exact⟨cs,rfl,h1,λi av u a b=>.pu _ _ (h2 i av u a b)⟩
 | tu _ cs h1 h2=>grind
theorem R.Cb {G:Gh} {f:FuncId} {l:List AV} {u:Value} (r:R G (.fn f l) u):∃ cs:Array Value,u=fnV f cs/\cs.size=l.length/\∀ (i:Nat) av u,l[i]?=some av->cs[i]?=some u->R G av u:=by cases r with
 | pu _ _ h=>cases h with|fn _ _ cs h1 h2=>exact⟨cs,rfl,h1,λi av u a b=>.pu _ _ (h2 i av u a b)⟩
 | fn _ _ cs h1 h2=>grind
theorem R.lu {G:Gh} {k i j:Nat} {u:Value} (r:R G (.pt k i j) u):∃ p:Addr,u=.pointer (some p)/\p.block=G.b k/\p.off=i*G.n k+j/\p.spot=none:=by cases r with
 | pu _ _ h=>cases h| pt _ _ _ p a b c=>simp_all
theorem R.lH {G:Gh} {k:Nat} {u:Value} (r:R G (.sl k) u):u=G.h k/\u.oneCell'=true:=by cases r with
 | pu _ _ h=>cases h| sl _ h=>exact⟨rfl,h⟩
theorem RP.Ce {F:View} {n:Nat} {rows:List (List AV)} {v:Value} (r:RP F (.ls n rows) v):∃ A cap ad,∃ u:Nat->Nat->Value,v=.slice A rows.length cap/\(∀ r∈rows,r.length=n)/\(0<rows.length->A=some ad) /\(∀ (i:Nat) r (j:Nat) av,rows[i]?=some r->r[j]?=some av->F (ad.add (i*n+j))=some (u i j)/\(u i j).oneCell'=true)/\(∀ (i:Nat) r (j:Nat) av,rows[i]?=some r->r[j]?=some av->RP F av (u i j))/\rows.length<=cap:=by cases r with|ls _ _ A cap ad u h0 h1 h2 h3 h4=>exact⟨A,cap,ad,u,rfl,h1,h2,h3,h4,h0⟩
theorem RP.oO {F:View} {cells:List AV} {v:Value} (r:RP F (.pr cells) v):∃ p:Addr,∃ u:Nat->Value,v=.pointer (some p)/\(∀ (j:Nat) av,cells[j]?=some av->F (p.add j)=some (u j)/\(u j).oneCell'=true) /\(∀ (j:Nat) av,cells[j]?=some av->RP F av (u j)):=by cases r with|pr _ p u h1 h2=>exact⟨p,u,rfl,h1,h2⟩
inductive OW (F:View)(w:World):AV->Value->(Nat->Prop)->Prop| pu (av:AV)(v:Value)(φ:Nat->Prop):RP F av v->OW F w av v φ| ow (T n:Nat)(rows:List (List AV))(v:Value)(φ:Nat->Prop)(vs:List (List Value))(Φ:Nat->Nat->Nat->Prop):(∀ r∈rows,r.length=n)->w.ownsRow 0 T n v vs.length vs.flatten->vs.length=rows.length->(∀ r∈vs,∀ u∈r,u.oneCell'=true) ->(∀ g,v.ownBlock=some g->φ g)->(∀ i j x,Φ i j x->φ x/\v.ownBlock≠some x)->(∀ i j i' j' x,Φ i j x->Φ i' j' x->i=i'/\j=j') ->(∀ (i:Nat) r r',rows[i]?=some r->vs[i]?=some r'->r'.length=r.length) ->(∀ (i:Nat) r r' (j:Nat) av u,rows[i]?=some r->vs[i]?=some r'->r[j]?=some av->r'[j]?=some u->OW F w av u (Φ i j))->OW F w (.ow T n rows) v φ
def CR(G:Gh)(w:World)(φ:Nat->Prop)(av:AV)(u:Value):Prop:=R G av u\/OW G.F w av u φ
def cO (w:World)(T n:Nat)(rows:List (List AV))(v:Value)(φ:Nat->Prop)(X:Nat->Nat->(Nat->Prop)->AV->Value->Prop):Prop :=(∀ r∈rows,r.length=n)/\∃ (vs:List (List Value))(Φ:Nat->Nat->Nat->Prop),w.ownsRow 0 T n v vs.length vs.flatten/\vs.length=rows.length/\(∀ r∈vs,∀ u∈r,u.oneCell'=true) /\(∀ g,v.ownBlock=some g->φ g)/\(∀ i j x,Φ i j x->φ x/\v.ownBlock≠some x)/\(∀ i j i' j' x,Φ i j x->Φ i' j' x->i=i'/\j=j') /\(∀ (i:Nat) r r',rows[i]?=some r->vs[i]?=some r'->r'.length=r.length) /\(∀ (i:Nat) r r' (j:Nat) av u,rows[i]?=some r->vs[i]?=some r'->r[j]?=some av->r'[j]?=some u->X i j (Φ i j) av u)
def XP(F:View):Nat->Nat->(Nat->Prop)->AV->Value->Prop:=λ_ _ _ av u=>RP F av u
def XO(F:View)(w:World):Nat->Nat->(Nat->Prop)->AV->Value->Prop:=λ_ _ φ av u=>OW F w av u φ
def XH(G:Gh)(hi hj:Nat)(x:AV):Nat->Nat->(Nat->Prop)->AV->Value->Prop:=λi j _ av u=>if i=hi/\j=hj then R G x u else RP G.F av u
def XQ(G:Gh)(w:World)(hi hj:Nat)(x:AV):Nat->Nat->(Nat->Prop)->AV->Value->Prop:=λi j φ av u=>if i=hi/\j=hj then R G x u else OW G.F w av u φ
theorem cO.ow {F:View} {w:World} {T n:Nat} {rows:List (List AV)} {v:Value} {φ:Nat->Prop} (h:cO w T n rows v φ (XO F w)):OW F w (.ow T n rows) v φ:=by
 obtain⟨h1,vs,Φ,h2,h3,h4,h5,h6,h7,h8,h9⟩:=h;exact .ow T n rows v φ vs Φ h1 h2 h3 h4 h5 h6 h7 h8 h9
theorem OW.row {F:View} {w:World} {T n:Nat} {rows:List (List AV)} {v:Value} {φ:Nat->Prop} (h:OW F w (.ow T n rows) v φ):cO w T n rows v φ (XO F w):=by cases h with
 | pu _ _ _ r=>exact r.W9.elim| ow _ _ _ _ _ vs Φ h1 h2 h3 h4 h5 h6 h7 h8 h9=>exact⟨h1,vs,Φ,h2,h3,h4,h5,h6,h7,h8,h9⟩
theorem EY {w w':World} {B e size n:Nat} {v:Value} {xs:List Value} (h:w.ownsRow B e size v n xs) (hk:∀ g,v.ownBlock=some g->w'.heap[g]?=w.heap[g]?):w'.ownsRow B e size v n xs:=by
 refine ⟨h.1,?_⟩;rcases h.2 with x|⟨g,cap,cur,e,hb,hh,hr⟩;.exact .inl x
 .exact .inr ⟨g,cap,cur,e,hb,(hk g (by rw [e];rfl)).trans hh,hr⟩
theorem OW.keep {F F':View} {w w':World} {av:AV} {v:Value} {φ:Nat->Prop} (hF:F.le F')(h:OW F w av v φ):(∀ x,φ x->w'.heap[x]?=w.heap[x]?)->OW F' w' av v φ:=by induction h with
 | pu av v φ r=>exact λ_=>.pu av v φ (r.mono hF)| ow T n rows v φ vs Φ h1 h2 h3 h4 h5 h6 h7 h8 _ ih =>
  intro hw;exact .ow T n rows v φ vs Φ h1 (EY h2 λg hg=>hw g (h5 g hg)) h3 h4 h5 h6 h7 h8 λi r r' j av u a b c d=>ih i r r' j av u a b c d λx hx=>hw x (h6 i j x hx).1
theorem OW.wide {F:View} {w:World} {av:AV} {v:Value} {φ φ':Nat->Prop} (h:OW F w av v φ) (hp:∀ x,φ x->φ' x):OW F w av v φ':=by cases h with
 | pu _ _ _ r=>exact .pu av v φ' r| ow T n rows _ _ vs Φ h1 h2 h3 h4 h5 h6 h7 h8 h9=>exact .ow T n rows v φ' vs Φ h1 h2 h3 h4 (λg hg=>hp g (h5 g hg)) (λi j x hx=>⟨hp x (h6 i j x hx).1,(h6 i j x hx).2⟩) h7 h8 h9
theorem CR.keep {G G':Gh} {w w':World} {nk:Nat} {φ:Nat->Prop} {av:AV} {v:Value} (h:CR G w φ av v)(hle:G.le G' nk)(hb:Bd nk av)(hw:∀ x,φ x->w'.heap[x]?=w.heap[x]?):CR G' w' φ av v :=h.elim (λr=>.inl (r.mono hle hb)) λo=>.inr (o.keep hle.F hw)
def AV.own:AV->Bool
 | .ow _ _ _=>true| _=>false
theorem CR.r {G:Gh} {w:World} {φ:Nat->Prop} {av:AV} {v:Value} (h:CR G w φ av v)(ho:av.own=false):R G av v:=by
 rcases h with r|o;.exact r
 .cases o with
  | pu _ _ _ r=>exact .pu _ _ r| ow=>cases ho
theorem OW.p {F:View} {w:World} {φ:Nat->Prop} {av:AV} {v:Value} (h:OW F w av v φ)(ho:av.own=false):RP F av v:=by cases h with
 | pu _ _ _ r=>exact r| ow=>cases ho
theorem CR.wide {G:Gh} {w:World} {φ φ':Nat->Prop} {av:AV} {v:Value} (h:CR G w φ av v)(hp:∀ x,φ x->φ' x):CR G w φ' av v:=h.elim .inl λo=>.inr (o.wide hp)
def J3 (w:World) (T e b:Nat) (φ:Nat->Prop) (l:List UInt8):Prop :=∃ p v,(p=.pointer none\/p=.pointer (some ⟨b,0,none⟩))/\w.heap[b]?=some (.cells #[p,v] T (0,0))/\w.ownsRowF 0 e 1 v l.length (Lib.byteCells l)/\∀ g,v.ownBlock=some g->φ g/\g≠b
structure Opq where
 Q:World->Nat->Value->(Nat->Prop)->Prop
 st:∀ w w' b v φ,(∀ x,φ x->w'.heap[x]?=w.heap[x]?)->Q w b v φ->Q w' b v φ
inductive AO where| box (T:TypeId)(cells:List AV)| row (T:TypeId)(n:Nat)(rows:List (List AV))| jO (T:TypeId)(n:Nat)(rows:List (List AV))| JU (T:TypeId)(n:Nat)(rows:List (List AV))(hi hj:Nat)(x:AV)| rV (T:TypeId)(n:Nat)(rows:List (List AV))(hi hj:Nat)(x:AV)| vK (T e:TypeId)(l:List UInt8)| opq (q:Opq)
def RL(F:View)(l:List AV)(vs:List Value):Prop:=vs.length=l.length/\∀ (i:Nat)av u,l[i]?=some av->vs[i]?=some u->RP F av u
def avZ (w:World)(T b:Nat)(φ:Nat->Prop)(cells:List AV)(X:(Nat->Prop)->AV->Value->Prop):Prop :=∃ (cs:Array Value)(Φ:Nat->Nat->Prop),yV w b T cs/\cs.size=cells.length/\(∀ i x,Φ i x->φ x/\x≠b)/\(∀ i i' x,Φ i x->Φ i' x->i=i')/\∀ (i:Nat) av u,cells[i]?=some av->cs[i]?=some u->X (Φ i) av u
def o8 (G:Gh) (w:World) (k:Nat):AO->Prop
 | .box T cells=>G.fp k (G.b k)/\avZ w T (G.b k) (G.fp k) cells (CR G w)| .row T n rows=>G.n k=n/\(∀ g,(G.h k).ownBlock=some g->g=G.b k)/\cO w T n rows (G.h k) (G.fp k) (XP G.F)| .jO T n rows=>G.n k=n/\(∀ g,(G.h k).ownBlock=some g->g=G.b k)/\cO w T n rows (G.h k) (G.fp k) (XO G.F w)| .JU T n rows hi hj x=>G.n k=n/\(∀ g,(G.h k).ownBlock=some g->g=G.b k)/\cO w T n rows (G.h k) (G.fp k) (XH G hi hj x)| .rV T n rows hi hj x=>G.n k=n/\(∀ g,(G.h k).ownBlock=some g->g=G.b k)/\cO w T n rows (G.h k) (G.fp k) (XQ G w hi hj x)| .vK T e l=>G.fp k (G.b k)/\J3 w T e (G.b k) (G.fp k) l| .opq q=>q.Q w (G.b k) (G.h k) (G.fp k)
def AO.bd(nk:Nat):AO->Prop
 | .box _ cells=>∀ (i:Nat)av,cells[i]?=some av->Bd nk av| .row _ _ _=>True| .jO _ _ _=>True| .JU _ _ _ _ _ x=>Bd nk x| .rV _ _ _ _ _ x=>Bd nk x| .vK _ _ _=>True| .opq _=>True
def look {α:Type} (i:Nat):List (Nat×α)->Option α
 | []=>none| x::r=>bif Nat.beq i x.1 then some x.2 else look i r
structure Kept(S:Nat->Prop)(w w':World):Prop where
 os:w'.os=w.os
 tape:w'.tape=w.tape
 output:w'.output=w.output
 size:w.heap.size<=w'.heap.size
 block:∀ k,k<w.heap.size->¬ S k->w'.heap[k]?=w.heap[k]?
theorem Kept.refl(S:Nat->Prop)(w:World):Kept S w w:=⟨rfl,rfl,rfl,Nat.le_refl _,λ_ _ _=>rfl⟩
theorem Kept.below {S:Nat->Prop} {w w':World} (h:Below w.heap.size w w'):Kept S w w':=⟨h.os,h.tape,h.output,h.size,λi hi _=>h.block i hi⟩
theorem Kept.Yh {S:Nat->Prop} {w w':World} (h:Kept S w w')(hs:∀ x,¬ S x):Below w.heap.size w w':=⟨h.os,h.tape,h.output,h.size,λi hi=>h.block i hi (hs i)⟩
theorem Kept.on {S S':Nat->Prop} {a b c:World} (h:Kept S a b)(k:Kept S' b c)(hs:∀ x,S' x->a.heap.size<=x\/S x):Kept S a c :=⟨k.os.trans h.os,k.tape.trans h.tape,k.output.trans h.output,gX h.size k.size,λi hi hn=>(k.block i (oD hi h.size) λx=>(hs i x).elim (λy=>by omega) hn).trans (h.block i hi hn)⟩
structure Cx where
 w0:World
 F0:View
 N:Nat
 fp:Nat->Prop
 np:Nat
 pg:Gh
 ds:List Deferred
def Cx.may(C:Cx)(x:Nat):Prop:=C.w0.heap.size<=x\/C.fp x
structure St where
 t:List (Nat×AV)M:List (Nat×AO)nk:Nat
structure Ok (C:Cx)(σ:St)(G:Gh)(a:Act)(w:World):Prop where
 sz:a.tmps.size=C.N
 df:a.defers=C.ds/\C.np<=σ.nk/\∀ k,k<C.np->G.b k=C.pg.b k/\G.n k=C.pg.n k/\G.h k=C.pg.h k
 tm:∀ i av,look i σ.t=some av->i<C.N/\Bd σ.nk av/\R G av (a.tmps.getD i undef)bel:Kept C.fp C.w0 w
 fw:∀ p u,G.F p=some u->w.cell? p=some u
 f0:C.F0.le G.F
 f1:∀ p u,G.F p=some u->C.F0 p=some u\/C.may p.block
 ob:∀ k o,look k σ.M=some o->k<σ.nk/\o.bd σ.nk/\o8 G w k o
 my:∀ k o x,look k σ.M=some o->G.fp k x->C.may x/\x<w.heap.size
 dj:∀ k o k' o' x,look k σ.M=some o->look k' σ.M=some o'->G.fp k x->G.fp k' x->k=k'
 dF:∀ k o x p u,look k σ.M=some o->G.fp k x->G.F p=some u->p.block≠x
theorem aQ {w:World} {p:Addr} {u:Value} (h:w.cell? p=some u):p.block<w.heap.size:=by grind[World.cell?]
theorem aB {α:Type} {i:Nat} {x:α} {r:List (Nat×α)}:look i ((i,x)::r)=some x:=by simp [look]
theorem ah {α:Type} {i j:Nat} {x:α} {r:List (Nat×α)} (h:i≠j):look i ((j,x)::r)=look i r:=by grind[dG,look]
def St.ev (σ:St):Operand->Option AV
 | .tmp t=>look t σ.t| .const v=>some (.sc v)| .func f=>some (.sc (.func (.func f) #[] #[]))| .global g=>some (.sc (.pointer (some ⟨g,0,none⟩)))
def St.set(σ:St)(d:Option Tmp)(av:AV):St :=match d with
 | none=>σ| some d=>{ σ with t:=(d,av)::σ.t }
def St.put(σ:St)(d:Tmp)(av:AV):St:={ σ with t:=(d,av)::σ.t }
section
variable {P:Program} {C:Cx} {σ σ':St} {G G':Gh} {a:Act} {w w':World}
theorem Ok.l9 (h:Ok C σ G a w) {x:Operand} {av:AV} (hx:σ.ev x=some av):Bd σ.nk av/\R G av (a.eval x):=by cases x with
 | tmp t=>exact⟨(h.tm t av hx).2.1,(h.tm t av hx).2.2⟩| const v=>cases hx;exact⟨.sc _,.pu _ _ (.sc _)⟩| func f=>cases hx;exact⟨.sc _,.pu _ _ (.sc _)⟩| global g=>cases hx;exact⟨.sc _,.pu _ _ (.sc _)⟩
theorem Ok.evs (h:Ok C σ G a w) {x:Operand} {v:Value} (hx:σ.ev x=some (.sc v)):a.eval x=v:=(h.l9 hx).2.fM
theorem aeO(ts:Array Value)(d i:Nat)(v:Value)(hd:d<ts.size):(ts.setIfInBounds d v).getD i undef=if d=i then v else ts.getD i undef:=by
 by_cases e:d=i;all_goals simp_all
theorem Ok.set (h:Ok C σ G a w) {d:Option Tmp} {av:AV} {v:Value} (hR:R G av v)(hb:Bd σ.nk av)(hd:∀ x,d=some x->x<C.N):Ok C (σ.set d av) G (a.put d v) w:=by cases d with
 | none=>exact h| some d =>
  have hd:=hd d rfl;refine⟨?_,h.df,?_,h.bel,h.fw,h.f0,h.f1,h.ob,h.my,h.dj,h.dF⟩;.exact alV
  .intro i x hx;show i<C.N/\Bd σ.nk x/\R G x ((a.tmps.setIfInBounds d v).getD i undef);rw [aeO _ _ _ _ (by rw [h.sz];exact hd)];by_cases e:d=i;.simp_all[St.set,aB]
   .rw [show look i (St.set σ (some d) av).t=look i σ.t from ah (λx=>e x.symm)] at hx;rw [if_neg e];exact h.tm i x hx
theorem wQ {w w':World} {B e size n:Nat} {v:Value} {xs:List Value} (h:w.ownsRowF B e size v n xs) (hk:∀ g,v.ownBlock=some g->w'.heap[g]?=w.heap[g]?):w'.ownsRowF B e size v n xs:=by
 refine ⟨h.1,?_⟩;rcases h.2 with x|⟨g,cap,cur,fz,e,hb,hh,hr⟩;.exact .inl x
 .exact .inr ⟨g,cap,cur,fz,e,hb,(hk g (by rw [e];rfl)).trans hh,hr⟩
theorem cO.keep {T n:Nat} {rows:List (List AV)} {v:Value} {φ:Nat->Prop} {X X':Nat->Nat->(Nat->Prop)->AV->Value->Prop} (h:cO w T n rows v φ X) (hw:∀ x,φ x->w'.heap[x]?=w.heap[x]?)(hX:∀ (i:Nat)r (j:Nat)av ψ u,rows[i]?=some r->r[j]?=some av->(∀ x,ψ x->w'.heap[x]?=w.heap[x]?)->X i j ψ av u->X' i j ψ av u):cO w' T n rows v φ X':=by
 obtain ⟨h1,vs,Φ,h2,h3,h4,h5,h6,h7,h8,h9⟩:=h;exact ⟨h1,vs,Φ,EY h2 λg hg=>hw g (h5 g hg),h3,h4,h5,h6,h7,h8,λi r r' j av u a b c d=>hX i r j av _ u a c (λx hx=>hw x (h6 i j x hx).1) (h9 i r r' j av u a b c d)⟩
theorem o8.keep {nk k:Nat} {o:AO} (h:o8 G w k o) (hle:G.le G' nk) (hk:k<nk) (hb:o.bd nk) (hf:G'.fp k=G.fp k) (hw:∀ x,G.fp k x->w'.heap[x]?=w.heap[x]?):o8 G' w' k o:=by cases o with
 | box T cells =>
  obtain ⟨h1,cs,Φ,h2,h3,h4,h5,h6⟩:=h;refine ⟨by rw [hf,hle.b k hk];exact h1,cs,Φ,?_,h3,by rw [hf,hle.b k hk];exact h4,h5,λi av u x y=>(h6 i av u x y).keep hle (hb i av x) λz hz=>hw z (h4 i z hz).1⟩;rw [hle.b k hk];exact (hw _ h1).trans h2| row T n rows =>
  obtain ⟨h1,h2,h3⟩:=h;refine ⟨by rw [hle.n k hk];exact h1,by rw [hle.h k hk,hle.b k hk];exact h2,?_⟩;rw [hf,hle.h k hk];exact h3.keep hw λi r j av ψ u _ _ ZC x=>RP.mono hle.F x| jO T n rows =>
  obtain ⟨h1,h2,h3⟩:=h;refine ⟨by rw [hle.n k hk];exact h1,by rw [hle.h k hk,hle.b k hk];exact h2,?_⟩;rw [hf,hle.h k hk];exact h3.keep hw λi r j av ψ u _ _ ZC x=>OW.keep hle.F x ZC| JU T n rows hi hj y =>
  obtain ⟨h1,h2,h3⟩:=h;refine ⟨by rw [hle.n k hk];exact h1,by rw [hle.h k hk,hle.b k hk];exact h2,?_⟩;rw [hf,hle.h k hk];refine h3.keep hw λi r j av ψ u hr hav ZC x=>?_;unfold XH at x ⊢;by_cases e:i=hi/\j=hj
  .rw [if_pos e] at x ⊢;exact R.mono hle x hb
  .rw [if_neg e] at x ⊢;exact RP.mono hle.F x| rV T n rows hi hj y =>
  obtain ⟨h1,h2,h3⟩:=h;refine ⟨by rw [hle.n k hk];exact h1,by rw [hle.h k hk,hle.b k hk];exact h2,?_⟩;rw [hf,hle.h k hk];refine h3.keep hw λi r j av ψ u hr hav ZC x=>?_;unfold XQ at x ⊢;by_cases e:i=hi/\j=hj
  .rw [if_pos e] at x ⊢;exact R.mono hle x hb
  .rw [if_neg e] at x ⊢;exact OW.keep hle.F x ZC| vK T e l =>
  obtain ⟨h1,p,v,h2,h3,h4,h5⟩:=h;refine ⟨by rw [hf,hle.b k hk];exact h1,p,v,by rw [hle.b k hk];exact h2,?_,wQ h4 λg hg=>hw g (h5 g hg).1,by rw [hf,hle.b k hk];exact h5⟩;rw [hle.b k hk];simp_all| opq q =>
  show q.Q w' (G'.b k) (G'.h k) (G'.fp k);rw [hle.b k hk,hle.h k hk,hf];exact q.st _ _ _ _ _ hw h
theorem Ok.world {S:Nat->Prop} (h:Ok C σ G a w) (hle:G.le G' σ.nk) (hfp:∀ k,k<σ.nk->G'.fp k=G.fp k) (hb:Kept S w w') (hS:∀ x,S x->C.may x) (hw:∀ k o x,look k σ.M=some o->G.fp k x->w'.heap[x]?=w.heap[x]?)(hfw:∀ p u,G'.F p=some u->w'.cell? p=some u) (hn:∀ p u,G'.F p=some u->G.F p=some u\/w.heap.size<=p.block):Ok C σ G' a w':=by
 refine ⟨h.sz,⟨h.df.1,h.df.2.1,λk hk=>by
  have hk2:=oD hk h.df.2.1;rw [hle.b k hk2,hle.n k hk2,hle.h k hk2];exact h.df.2.2 k hk⟩,λi av x=>⟨(h.tm i av x).1,(h.tm i av x).2.1,(h.tm i av x).2.2.mono hle (h.tm i av x).2.1⟩,h.bel.on hb hS,hfw,λp u x=>hle.F _ _ (h.f0 p u x),?_,?_,?_,?_,?_⟩
 .intro p u x;rcases hn p u x with y|y;.exact h.f1 p u y
  .exact .inr (.inl (gX h.bel.size y))
 .intro k o x;obtain ⟨a1,a2,a3⟩:=h.ob k o x;exact ⟨a1,a2,a3.keep hle a1 a2 (hfp k a1) (λy hy=>hw k o y x hy)⟩
 .intro k o x h1 h2;rw [hfp k (h.ob k o h1).1]at h2;exact ⟨(h.my k o x h1 h2).1,oD (h.my k o x h1 h2).2 hb.size⟩
 .intro k o k' o' x h1 h2 h3 h4;rw [hfp k (h.ob k o h1).1]at h3;rw [hfp k' (h.ob k' o' h2).1]at h4;exact h.dj k o k' o' x h1 h2 h3 h4
 .intro k o x p u h1 h2 h3;rw [hfp k (h.ob k o h1).1]at h2;rcases hn p u h3 with y|y;.exact h.dF k o x p u h1 h2 y
  .have:=(h.my k o x h1 h2).2;omega
theorem Ok.drew (h:Ok C σ G a w):Ok C σ G a w.drew :=h.world (S:=λ_=>False) (Gh.le.refl _ _) (λ_ _=>rfl) ⟨rfl,rfl,rfl,Nat.le_refl _,λ_ _ _=>rfl⟩ (λ_ x=>x.elim) (λ_ _ _ _ _=>rfl) h.fw (λ_ _ x=>.inl x)
end
def Tr(C:Cx)(σ σ':St):Prop:=∀ G a w,Ok C σ G a w->∃ G',Ok C σ' G' a w
theorem Tr.trans {C:Cx} {σ σ' BX:St} (h:Tr C σ σ')(k:Tr C σ' BX):Tr C σ BX:=λG a w x=>by exact abV
def Post(C:Cx)(Q:Exit->St->Prop):Exit->Act->World->Prop:=λe a w=>∃ σ G,Q e σ/\Ok C σ G a w
def W (P:Program)(C:Cx)(c:Code)(σ:St)(Q:Exit->St->Prop):Prop:=∀ G a w,Ok C σ G a w->c.wp P (Post C Q) a w
def WL (P:Program)(C:Cx)(ops:Array Oper)(l:List Oper)(σ:St)(Q:Exit->St->Prop):Prop:=∀ G a w,Ok C σ G a w->wpList P ops (Post C Q) l a w
def WO(P:Program)(C:Cx)(o:Oper)(σ σ':St):Prop :=∀ G a w,Ok C σ G a w->∀ (N:Act->World->Prop)(Q':Exit->Act->World->Prop),(∀ G' a' w',Ok C σ' G' a' w'->N a' w')->o.wp P a w N Q'
section
variable {P:Program} {C:Cx} {σ σ':St} {Q Q':Exit→St→Prop}
theorem W.tr {c:Code} (h:Tr C σ σ')(k:W P C c σ' Q):W P C c σ Q:=λG a w x=>by exact abV
theorem WL.tr {ops:Array Oper} {l:List Oper} (h:Tr C σ σ')(k:WL P C ops l σ' Q):WL P C ops l σ Q:=λG a w x=>by exact abV
theorem W.mono {c:Code} (h:W P C c σ Q)(hq:∀ e s,Q e s->Q' e s):W P C c σ Q':=λG a w x =>wp_mono (h G a w x) λe a w⟨s,g,q,o⟩=>⟨s,g,hq e s q,o⟩
theorem W.skip(h:Q .normal σ):W P C .skip σ Q:=λG a w x=>wp_skip ⟨σ,G,h,x⟩
theorem W.exit {id:Nat} (h:Q (.exit id) σ):W P C (.exit id) σ Q:=λG a w x=>wp_exit ⟨σ,G,h,x⟩
theorem W.ret(h:Q .ret σ):W P C .ret σ Q:=λG a w x=>wp_ret ⟨σ,G,h,x⟩
def gU(N:St->Prop)(Q:Exit->St->Prop):Exit->St->Prop
 | .normal,s=>N s| e,s=>Q e s
def oH (id:Nat)(Q:Exit->St->Prop):Exit->St->Prop
 | .exit id',s=>if id'=id then Q .normal s else Q (.exit id') s| e,s=>Q e s
theorem W.seq {x y:Code} (h:W P C x σ (gU (λs=>W P C y s Q) Q)):W P C (.seq x y) σ Q:=λG a w ok =>wp_seq (wp_mono (h G a w ok) λe a w⟨s,g,q,o⟩=>by cases e with
  | normal=>exact q g a w o| exit id=>exact⟨s,g,q,o⟩| goto l=>exact⟨s,g,q,o⟩| ret=>exact⟨s,g,q,o⟩| panic c=>exact⟨s,g,q,o⟩| outgrown=>exact⟨s,g,q,o⟩)
theorem W.ave {x y:Code} (Pm:St)(h:W P C x σ (gU (λs=>Tr C s Pm) Q))(k:W P C y Pm Q):W P C (.seq x y) σ Q :=W.seq (W.mono h λe s q=>by cases e with
  | normal=>exact W.tr q k| _=>exact q)
theorem W.block {id:Nat} {c:Code} (h:W P C c σ (oH id Q)):W P C (.block id c) σ Q:=λG a w ok =>wp_block (wp_mono (h G a w ok) λe a w⟨s,g,q,o⟩=>by cases e with
  | exit id' =>
   show if id'=id then _ else _;by_cases e:id'=id;.rw [if_pos e];exact⟨s,g,by simp_all[oH],o⟩
   .rw [if_neg e];exact⟨s,g,by simp_all[oH],o⟩| normal=>exact⟨s,g,q,o⟩| goto l=>exact⟨s,g,q,o⟩| ret=>exact⟨s,g,q,o⟩| panic c=>exact⟨s,g,q,o⟩| outgrown=>exact⟨s,g,q,o⟩)
theorem W.cond {c:Operand} {x y:Code} {t:Bool} (hc:σ.ev c=some (.sc (.bool t)))(h1:t=true->W P C x σ Q)(h2:t=false->W P C y σ Q):W P C (.cond c x y) σ Q:=λG a w ok=>by
 refine wp_cond (ok.evs hc) ?_;cases t;.exact h2 rfl G a w ok
 .exact h1 rfl G a w ok
theorem W.loop {c:Code} {X:Type} (I:X->Prop) (S:X->St) (μ:X->Nat) (x0:X) (h0:I x0) (hi:Tr C σ (S x0))(round:∀ x,I x->W P C c (S x) (gU (λs=>∃ x',I x'/\μ x'<μ x/\Tr C s (S x')) Q)):W P C (.loop c) σ Q:=by
 intro G a w ok b k cs;have key:∀ n x G a w,μ x=n->I x->Ok C (S x) G a w->∃ e a' w',Post C Q e a' w'/\Arrives P (lone (b.at a (.code c::.inLoop c::k)) cs w) b k cs e a' w':=by
  intro n;induction n using Nat.strongRecOn with| _ n ih =>
   intro x G a w hn hI ok;obtain ⟨e,a1,w1,⟨s,g,hq,o1⟩,harr⟩:=round x hI G a w ok b (.inLoop c::k) cs;cases e with
   | normal =>
    obtain ⟨x',hI',hlt,ht⟩:=hq;obtain ⟨g',o2⟩:=ht g a1 w1 o1;obtain ⟨e2,a2,w2,hq2,awT⟩:=ih (μ x') (hn ▸ hlt) x' g' a1 w1 rfl hI' o2;exact ⟨e2,a2,w2,hq2,.of_steps (Steps.trans harr (.one step_inLoop)) awT⟩| exit id=>exact ⟨_,a1,w1,⟨s,g,hq,o1⟩,.pass (x:=.inLoop c) rfl (λ_ _=>.inl (by simp)) harr⟩| goto l=>exact ⟨_,a1,w1,⟨s,g,hq,o1⟩,.pass (x:=.inLoop c) rfl (λ_ _=>.inl (by simp)) harr⟩| ret=>exact ⟨_,a1,w1,⟨s,g,hq,o1⟩,.pass (x:=.inLoop c) rfl (λ_ _=>.inl (by simp)) harr⟩| panic ch=>exact ⟨_,a1,w1,⟨s,g,hq,o1⟩,.pass (x:=.inLoop c) rfl (λ_ _=>.inl (by simp)) harr⟩| outgrown=>exact ⟨_,a1,w1,⟨s,g,hq,o1⟩,.pass (x:=.inLoop c) rfl (λ_ _=>.inl (by simp)) harr⟩
 obtain ⟨g0,ok0⟩:=hi G a w ok;obtain ⟨e,a',w',hq,harr⟩:=key _ x0 g0 a w rfl h0 ok0;exact ⟨e,a',w',hq,.of_steps (.one step_loop) harr⟩
theorem W.region {id:Nat} {l:List Oper} (h:WL P C l.toArray l σ Q):W P C (.region id l.toArray false) σ Q:=λG a w ok=>wp_region_lit (h G a w ok)
theorem WL.nil {ops:Array Oper} (h:Q .normal σ):WL P C ops [] σ Q:=λG a w ok=>wpList_nil ⟨σ,G,h,ok⟩
theorem WL.op {ops:Array Oper} {o:Oper} {rest:List Oper} (hg:o.guard=none)(h:WO P C o σ σ')(k:WL P C ops rest σ' Q):WL P C ops (o::rest) σ Q:=λG a w ok =>wpList_plain hg λK hK=>h G a w ok K _ λG' a' w' ok'=>hK _ _ (k G' a' w' ok')
theorem dn {a b:Nat} (h:Nat.blt a b=true):a<b:=Nat.lt_of_succ_le (by simp_all[Nat.blt])
def vb:Value->Option Bool
 | .bool b=>some b| _=>none
theorem D7 {ops:Array Oper} {G:Gh} {a:Act} {w:World} (ok:Ok C σ G a w) {j:Nat} {oj:Oper} {d:Tmp} {v:Value} (hj:ops[j]?=some oj)(hd:oj.dst=some d)(hv:look d σ.t=some (.sc v)) :yielded ops a.tmps j=vb v:=by
 have h1:=ok.tm d _ hv;have h2:=h1.2.2.fM;have h3:a.tmps[d]?=some v:=by
  have hlt:d<a.tmps.size:=by rw [ok.sz];exact h1.1
  simp_all
 simp only [yielded,hj,Yy,hd,h3];cases v<;>rfl
theorem WL.opn {ops:Array Oper} {o oj:Oper} {rest:List Oper} {j:Nat} {b:Bool} {d d':Tmp} {v:Value} (hg:o.guard=some (j,b)) (hj:ops[j]?=some oj) (hd:oj.dst=some d) (hv:look d σ.t=some (.sc v))(hb:vb v≠some b) (hds:o.dst=some d') (hdn:Nat.blt d' C.N=true) (h:WL P C ops rest (σ.put d' (.sc undef)) Q):WL P C ops (o::rest) σ Q:=λG a w ok =>wpList_step λK hK=>by
  have hy:=D7 (ops:=ops) ok hj hd hv;rw [if_neg (by simp_all[Region.wanted])];rw [hds];exact hK _ _ (h G _ w (ok.set (d:=some d') (.pu _ _ (.sc _)) (.sc _) λx hx=>by simp_all))
theorem WL.part {ops:Array Oper} {l:List Oper} {d:Tmp} {b:Bool} (hv:look d σ.t=some (.sc (.bool b))) (h1:b=true->WL P C ops l (σ.set (some d) (.sc (.bool true))) Q) (h2:b=false->WL P C ops l (σ.set (some d) (.sc (.bool false))) Q):WL P C ops l σ Q:=λG a w ok=>by
 have key:∀ c,b=c->Ok C (σ.set (some d) (.sc (.bool c))) G a w:=λc e=>by
  subst e;refine ⟨ok.sz,ok.df,λi x hx=>?_,ok.bel,ok.fw,ok.f0,ok.f1,ok.ob,ok.my,ok.dj,ok.dF⟩;by_cases hi:i=d
  .subst hi;rw [show look i (St.set σ (some i) (.sc (.bool b))).t=_ from aB] at hx;cases hx;exact ok.tm i _ hv
  .rw [show look i (St.set σ (some d) (.sc (.bool b))).t=_ from ah hi] at hx;exact ok.tm i x hx
 cases b;.exact h2 rfl G a w (key _ rfl)
 .exact h1 rfl G a w (key _ rfl)
end
def bC(P:Program)(f:FuncId)(args:List AV)(res:AV):Prop :=∀ (w:World)(F:View)(vs:List Value),(∀ p u,F p=some u->w.cell? p=some u)->RL F args vs ->Calls P f vs.toArray w λe w'=>∃ v F',e=.returned v/\Below w.heap.size w w'/\View.le F F'/\(∀ p u,F' p=some u->w'.cell? p=some u)/\(∀ p u,F' p=some u->F p=some u\/w.heap.size<=p.block)/\RP F' res v
def number {α:Type}:Nat->List α->List (Nat×α)
 | _,[]=>[]| n,x::r=>(n,x)::number (n+1) r
theorem kX {α:Type}:∀ (l:List α)(n i:Nat)(x:α),look i (number n l)=some x->n<=i/\l[i-n]?=some x
 | [],n,i,x,h=>by cases h| y::r,n,i,x,h=>by
  by_cases e:i=n;.simp_all[number,aB]
  .rw [show look i (number n (y::r))=look i (number (n+1) r) from ah e] at h;obtain⟨h1,h2⟩:=kX r (n+1) i x h;grind
def St.init(args:List AV):St:=⟨number 0 args,[],0⟩
def G0:Gh:=⟨λ_=>none,λ_=>0,λ_=>0,λ_=>undef,λ_ _=>False⟩
def Fin(P:Program)(fn:Func)(C:Cx)(σ:St)(res:AV):Prop :=∀ G a w,Ok C σ G a w->∃ v F',(results fn a.tmps).run P w=.ok v w/\View.le G.F F'/\(∀ p u,F' p=some u->w.cell? p=some u)/\(∀ p u,F' p=some u->G.F p=some u\/C.may p.block)/\RP F' res v
def Vj(P:Program)(fn:Func)(C:Cx)(res:AV):Exit->St->Prop:=λe σ=>(e=.normal\/e=.ret)/\Fin P fn C σ res
theorem bC.intro {P:Program} {f:FuncId} {fn:Func} {c:Code} {args:List AV} {res:AV} (hf:P.funcs[f]?=some fn) (hb:fn.body=some c) {N:Nat} (hN:fn.ntmps=N) (hn:args.length<=N) (hp:∀ (i:Nat) av,args[i]?=some av->Bd 0 av)(h:∀ w0 F0,W P ⟨w0,F0,N,λ_=>False,0,G0,[]⟩ c (St.init args) (Vj P fn ⟨w0,F0,N,λ_=>False,0,G0,[]⟩ res)):bC P f args res:=by
 intro w F vs hF hR;subst hN;refine calls_of_wp hf hb ?_;have hsz:vs.toArray.size=args.length:=by simpa using hR.1
 have h1:=h w F ⟨F,λ_=>0,λ_=>0,λ_=>undef,λ_ _=>False⟩ { tmps:=vs.toArray++Array.replicate (fn.ntmps - vs.toArray.size) undef,defers:=[] } w ⟨by simp_all,⟨rfl,Nat.le_refl _,λk hk=>absurd hk (Yz k)⟩,λi av hx=>by
   obtain ⟨_,h2⟩:=kX args 0 i av hx;simp only [CP] at h2;have hi:i < args.length:=(List.getElem?_eq_some_iff.1 h2).1;have hv:i < vs.length:=by rw [hR.1];exact hi
   refine ⟨by grind,hp i av h2,.pu _ _ (hR.2 i av _ h2 ?_)⟩;simp_all[FN],Kept.refl _ _,hF,λ_ _ h=>h,λ_ _ h=>.inl h,(λk o h=>by cases h),(λk o x h=>by cases h),(λk o k' o' x h=>by cases h),(λk o x p u h=>by cases h)⟩;refine wp_mono h1 λe a w' ⟨σ,G,⟨he,hfin⟩,ok⟩=>?_;obtain ⟨v,F',hr,hle,hfw,hnew,hres⟩:=hfin G a w' ok;rcases he with rfl|rfl;.exact aea
 .exact aea
theorem Bd.rp {G:Gh} {av:AV} {v:Value} (b:Bd 0 av)(r:R G av v):RP G.F av v:=by induction r with
 | pu _ _ h=>exact h| pt k i j p=>cases b<;>omega| sl k=>cases b<;>omega| ag l cs h1 _ ih=>cases b with|ag _ hb=>exact .ag l cs h1 λi av u x y=>ih i av u x y (hb i av x)
 | tu l cs h1 _ ih=>cases b with|tu _ hb=>exact .tu l cs h1 λi av u x y=>ih i av u x y (hb i av x)
 | fn f l cs h1 _ ih=>cases b with|fn _ _ hb=>exact .fn f l cs h1 λi av u x y=>ih i av u x y (hb i av x)
theorem Fin.one {P:Program} {fn:Func} {C:Cx} {σ:St} {t:Tmp} {res:AV} (h:fn.results=#[.tmp t])(ht:look t σ.t=some res)(hb:Bd 0 res):Fin P fn C σ res:=λG a w ok =>⟨a.tmps.getD t undef,G.F,results_tmp h _ _ _,λ_ _ h=>h,ok.fw,λ_ _ h=>.inl h,hb.rp (ok.tm t _ ht).2.2⟩
theorem Fin.two {P:Program} {fn:Func} {C:Cx} {σ:St} {t u:Tmp} {r1 r2:AV} (h:fn.results=#[.tmp t,.tmp u])(h1:look t σ.t=some r1)(h2:look u σ.t=some r2)(b1:Bd 0 r1)(b2:Bd 0 r2):Fin P fn C σ (.tu [r1,r2]):=λG a w ok =>⟨.tuple #[a.tmps.getD t undef,a.tmps.getD u undef],G.F,results_tmp2 h _ _ _,λ_ _ h=>h,ok.fw,λ_ _ h=>.inl h,.tu _ _ rfl λi av x ha hx=>by match i with
  | 0=>cases ha;cases hx;exact b1.rp (ok.tm t _ h1).2.2| 1=>cases ha;cases hx;exact b2.rp (ok.tm u _ h2).2.2| n+2=>simp at ha⟩
section
variable {P:Program} {C:Cx} {σ σ':St} {o:Oper} {d:Tmp}
def WV (P:Program)(C:Cx)(o:Oper)(σ:St)(av:AV):Prop :=∀ G a w,Ok C σ G a w->∀ (N:Act->World->Prop)(Q':Exit->Act->World->Prop),(∀ v G' w',(∀ BX a'',Ok C BX G a'' w->Ok C BX G' a'' w')->R G' av v->Bd σ.nk av->N (a.put o.dst v) w')->o.wp P a w N Q'
theorem WO.adh {av:AV} (hds:o.dst=some d)(hd:Nat.blt d C.N=true)(h:WV P C o σ av):WO P C o σ (σ.put d av):=λG a w ok N Q' hN =>h G a w ok N Q' λv G' w' hk hr hb=>by
  rw [hds];exact hN G' _ w' ((hk σ a ok).set (d:=some d) hr hb λx hx=>by simp_all)
theorem WL.opv {ops:Array Oper} {rest:List Oper} {Q:Exit->St->Prop} {av:AV} (hg:o.guard=none)(hds:o.dst=some d)(hd:Nat.blt d C.N=true)(h:WV P C o σ av)(k:WL P C ops rest (σ.put d av) Q):WL P C ops (o::rest) σ Q :=WL.op hg (WO.adh hds hd h) k
theorem WV.val {av:AV} (hb:∀ G a w,Ok C σ G a w->Bd σ.nk av)(h:∀ G a w,Ok C σ G a w->∃ v,(execOp a.eval o).run P w=.ok (.value v) w/\R G av v):WV P C o σ av:=by
 intro G a w ok N Q' hN;obtain⟨v,h1,h2⟩:=h G a w ok;unfold Oper.wp;rw [h1];exact hN v G w (λ_ _ h=>h) h2 (hb G a w ok)
theorem WV.sc {v:Value} (h:∀ G a w,Ok C σ G a w->(execOp a.eval o).run P w=.ok (.value v) w):WV P C o σ (.sc v) :=WV.val (λ_ _ _ _=>.sc v) λG a w ok=>⟨v,h G a w ok,.pu _ _ (.sc v)⟩
theorem WV.move {x:Operand} {av:AV} (ho:o.op=.move x)(hx:σ.ev x=some av):WV P C o σ av :=WV.val (λG a w ok=>(ok.l9 hx).1) λG a w ok=>⟨a.eval x,by simp_all[execOp],(ok.l9 hx).2⟩
theorem WV.assign {x:Operand} {av:AV} (ho:o.op=.assign x)(hx:σ.ev x=some av):WV P C o σ av :=WV.val (λG a w ok=>(ok.l9 hx).1) λG a w ok=>⟨a.eval x,by simp_all[execOp],(ok.l9 hx).2⟩
theorem WV.axL {c x y:Operand} {av:AV} (ho:o.op=.pick c x y)(hc:σ.ev c=some (.sc (.bool true)))(hx:σ.ev x=some av):WV P C o σ av :=WV.val (λG a w ok=>(ok.l9 hx).1) λG a w ok=>⟨a.eval x,by unfold execOp;simp [ho,ok.evs hc,asBool],(ok.l9 hx).2⟩
theorem WV.axK {c x y:Operand} {av:AV} (ho:o.op=.pick c x y)(hc:σ.ev c=some (.sc (.bool false)))(hy:σ.ev y=some av):WV P C o σ av :=WV.val (λG a w ok=>(ok.l9 hy).1) λG a w ok=>⟨a.eval y,by unfold execOp;simp [ho,ok.evs hc,asBool],(ok.l9 hy).2⟩
def I64(z:Int):Prop:=-9223372036854775808<=z/\z<9223372036854775808
theorem I64.wrap {z:Int} (h:I64 z):IntKind.i64.wrap z=z:=Go.IntWalk.i64_in z ⟨h.1,by have:=h.2;omega⟩
theorem WV.add {T Ty:TypeId} {x y:Operand} {m n:Int} (ho:o.op=.binOp .add T x y Ty)(hx:σ.ev x=some (.sc (.int .i64 m)))(hy:σ.ev y=some (.sc (.int .i64 n)))(hb:I64 (m+n)):WV P C o σ (.sc (.int .i64 (m+n))) :=WV.sc λG a w ok=>by unfold execOp;simp [ho,ok.evs hx,ok.evs hy,eqGuard,binOp,Op.intArith,hb.wrap]
theorem WV.sub {T Ty:TypeId} {x y:Operand} {m n:Int} (ho:o.op=.binOp .sub T x y Ty)(hx:σ.ev x=some (.sc (.int .i64 m)))(hy:σ.ev y=some (.sc (.int .i64 n)))(hb:I64 (m-n)):WV P C o σ (.sc (.int .i64 (m-n))) :=WV.sc λG a w ok=>by unfold execOp;simp [ho,ok.evs hx,ok.evs hy,eqGuard,binOp,Op.intArith,hb.wrap]
theorem WV.mul {T Ty:TypeId} {x y:Operand} {m n:Int} (ho:o.op=.binOp .mul T x y Ty)(hx:σ.ev x=some (.sc (.int .i64 m)))(hy:σ.ev y=some (.sc (.int .i64 n)))(hb:I64 (m*n)):WV P C o σ (.sc (.int .i64 (m*n))) :=WV.sc λG a w ok=>by unfold execOp;simp [ho,ok.evs hx,ok.evs hy,eqGuard,binOp,Op.intArith,hb.wrap]
theorem WV.lss {T Ty:TypeId} {x y:Operand} {k:IntKind} {m n:Int} (ho:o.op=.binOp .lss T x y Ty)(hx:σ.ev x=some (.sc (.int k m)))(hy:σ.ev y=some (.sc (.int k n))):WV P C o σ (.sc (.bool (decide (m<n)))) :=WV.sc λG a w ok=>by unfold execOp;simp [ho,ok.evs hx,ok.evs hy,eqGuard,binOp,Op.intCmp]
theorem WV.leq {T Ty:TypeId} {x y:Operand} {k:IntKind} {m n:Int} (ho:o.op=.binOp .leq T x y Ty)(hx:σ.ev x=some (.sc (.int k m)))(hy:σ.ev y=some (.sc (.int k n))):WV P C o σ (.sc (.bool (decide (m<=n)))) :=WV.sc λG a w ok=>by unfold execOp;simp [ho,ok.evs hx,ok.evs hy,eqGuard,binOp,Op.intCmp]
theorem WV.gtr {T Ty:TypeId} {x y:Operand} {k:IntKind} {m n:Int} (ho:o.op=.binOp .gtr T x y Ty)(hx:σ.ev x=some (.sc (.int k m)))(hy:σ.ev y=some (.sc (.int k n))):WV P C o σ (.sc (.bool (decide (n<m)))) :=WV.sc λG a w ok=>by unfold execOp;simp [ho,ok.evs hx,ok.evs hy,eqGuard,binOp,Op.intCmp]
theorem WV.geq {T Ty:TypeId} {x y:Operand} {k:IntKind} {m n:Int} (ho:o.op=.binOp .geq T x y Ty)(hx:σ.ev x=some (.sc (.int k m)))(hy:σ.ev y=some (.sc (.int k n))):WV P C o σ (.sc (.bool (decide (n<=m)))) :=WV.sc λG a w ok=>by unfold execOp;simp [ho,ok.evs hx,ok.evs hy,eqGuard,binOp,Op.intCmp]
theorem WV.eql {T Ty:TypeId} {x y:Operand} {k:IntKind} {m n:Int} (ho:o.op=.binOp .eql T x y Ty)(hx:σ.ev x=some (.sc (.int k m)))(hy:σ.ev y=some (.sc (.int k n))):WV P C o σ (.sc (.bool (decide (m=n)))) :=WV.sc λG a w ok=>by unfold execOp;simp [ho,ok.evs hx,ok.evs hy,eqGuard,binOp,Op.intCmp];rfl
theorem WV.neq {T Ty:TypeId} {x y:Operand} {k:IntKind} {m n:Int} (ho:o.op=.binOp .neq T x y Ty)(hx:σ.ev x=some (.sc (.int k m)))(hy:σ.ev y=some (.sc (.int k n))):WV P C o σ (.sc (.bool (!decide (m=n)))) :=WV.sc λG a w ok=>by unfold execOp;simp [ho,ok.evs hx,ok.evs hy,eqGuard,binOp,Op.intCmp];rfl
theorem WV.not {T:TypeId} {x:Operand} {b:Bool} (ho:o.op=.unOp .not T x)(hx:σ.ev x=some (.sc (.bool b))):WV P C o σ (.sc (.bool (!b))) :=WV.sc λG a w ok=>by unfold execOp;simp [ho,ok.evs hx,Op.unary]
theorem WV.beq {T Ty:TypeId} {x y:Operand} {b c:Bool} (ho:o.op=.binOp .eql T x y Ty)(hT:P.underlying T=some .bool)(hx:σ.ev x=some (.sc (.bool b)))(hy:σ.ev y=some (.sc (.bool c))):WV P C o σ (.sc (.bool (b == c))) :=WV.sc λG a w ok=>by unfold execOp;simp [ho,ok.evs hx,ok.evs hy,eqGuard,binOp,run_equal_bool w T b c hT]
theorem WV.bne {T Ty:TypeId} {x y:Operand} {b c:Bool} (ho:o.op=.binOp .neq T x y Ty)(hT:P.underlying T=some .bool)(hx:σ.ev x=some (.sc (.bool b)))(hy:σ.ev y=some (.sc (.bool c))):WV P C o σ (.sc (.bool (!(b == c)))) :=WV.sc λG a w ok=>by unfold execOp;simp [ho,ok.evs hx,ok.evs hy,eqGuard,binOp,run_equal_bool w T b c hT]
def JW:List AV->Option (List Value)
 | []=>some []| .sc v::r=>(JW r).map (v::.)| _=>none
theorem DX {G:Gh}:∀ {l:List AV} {xs:List Value},JW l=some xs->∀ {cs:List Value},cs.length=l.length->(∀ (i:Nat) av u,l[i]?=some av->cs[i]?=some u->R G av u)->cs=xs:=by
 intro l;induction l with
 | nil=>intro xs h cs hl _;cases h;simp_all| cons a r ih =>
  intro xs h cs hl hc;cases a with
  | sc v =>cases hr:JW r with
   | none=>simp [JW,hr] at h| some ys =>
    simp [JW,hr] at h;subst h;cases cs with
    | nil=>simp at hl| cons u us =>
     have h0:=(hc 0 (.sc v) u rfl rfl).fM;have:=ih hr (cs:=us) (by simpa using hl) (λi av x p q=>hc (i+1) av x (by simpa using p) wF);rw [h0,this]
  | _=>simp [JW] at h
theorem Ok.agg {G:Gh} {a:Act} {w:World} (ok:Ok C σ G a w) {x:Operand} {l:List AV} {xs:List Value} (hx:σ.ev x=some (.ag l)) (hs:JW l=some xs):a.eval x=.agg xs.toArray:=by
 obtain ⟨cs,e,h1,h2⟩:=(ok.l9 hx).2.Ed;rw [e,← DX hs (cs:=cs.toList) yh (λi av u p q=>h2 i av u p wF)]
theorem WV.aeq {T Ty:TypeId} {x y:Operand} {l m:List AV} {xs ys:List Value} {b:Bool} (ho:o.op=.binOp .eql T x y Ty) (hx:σ.ev x=some (.ag l)) (h1:JW l=some xs) (hy:σ.ev y=some (.ag m)) (h2:JW m=some ys)(hg:P.eqGuardType P.depth T=false) (he:∀ w,(Op.equalIn 10000 T (.agg xs.toArray) (.agg ys.toArray)).run P w=.ok b w):WV P C o σ (.sc (.bool b)) :=WV.sc λG a w ok=>by unfold execOp;simp [ho,ok.agg hx h1,ok.agg hy h2,run_eqGuard_agg w _ T x y _ _ hg,run_eql_struct,he]
theorem WV.ane {T Ty:TypeId} {x y:Operand} {l m:List AV} {xs ys:List Value} {b:Bool} (ho:o.op=.binOp .neq T x y Ty) (hx:σ.ev x=some (.ag l)) (h1:JW l=some xs) (hy:σ.ev y=some (.ag m)) (h2:JW m=some ys)(hg:P.eqGuardType P.depth T=false) (he:∀ w,(Op.equalIn 10000 T (.agg xs.toArray) (.agg ys.toArray)).run P w=.ok b w):WV P C o σ (.sc (.bool (!b))) :=WV.sc λG a w ok=>by unfold execOp;simp [ho,ok.agg hx h1,ok.agg hy h2,run_eqGuard_agg w _ T x y _ _ hg,run_neq_struct,he]
theorem WV.aAs {T Ty:TypeId} {x y:Operand} {s t:List UInt8} (ho:o.op=.binOp .eql T x y Ty)(hx:σ.ev x=some (.sc (.string (bs s))))(hy:σ.ev y=some (.sc (.string (bs t)))):WV P C o σ (.sc (.bool (s == t))) :=WV.sc λG a w ok=>by unfold execOp;simp [ho,ok.evs hx,ok.evs hy,eqGuard,binOp,Op.stringOp,jf]
theorem WV.sne {T Ty:TypeId} {x y:Operand} {s t:List UInt8} (ho:o.op=.binOp .neq T x y Ty)(hx:σ.ev x=some (.sc (.string (bs s))))(hy:σ.ev y=some (.sc (.string (bs t)))):WV P C o σ (.sc (.bool (!(s == t)))) :=WV.sc λG a w ok=>by unfold execOp;simp [ho,ok.evs hx,ok.evs hy,eqGuard,binOp,Op.stringOp,jf]
theorem WV.cat {T Ty:TypeId} {x y:Operand} {s t:List UInt8} (ho:o.op=.binOp .add T x y Ty)(hx:σ.ev x=some (.sc (.string (bs s))))(hy:σ.ev y=some (.sc (.string (bs t))))(hl:s.length+t.length<9223372036854775808):WV P C o σ (.sc (.string (bs (s++t)))) :=WV.sc λG a w ok=>by
  have h1:¬ ((((bs s).size+(bs t).size:Nat):Int) > IntKind.i64.max):=by
   rw [dI,dI];have:IntKind.i64.max=9223372036854775807:=by decide
   rw [this];omega
  unfold execOp;simp only [ho,ok.evs hx,ok.evs hy,eqGuard,binOp,Op.stringOp,if_neg h1];simp [je]
theorem WV.extract {x:Operand} {i:Nat} {l:List AV} {av:AV} (ho:o.op=.extract x i)(hx:σ.ev x=some (.tu l))(hi:l[i]?=some av):WV P C o σ av :=WV.val (λG a w ok=>by cases (ok.l9 hx).1<;>grind) λG a w ok=>by
  obtain⟨cs,e,h1,h2⟩:=(ok.l9 hx).2.Ym;have hlt:i<cs.size:=by grind
  refine⟨cs[i],?_,h2 i av _ hi (vC hlt)⟩;unfold execOp;simp [ho,e,Instr.extract,vC hlt]
theorem WV.aAa {x:Operand} {T e:TypeId} {n:Nat} {rows:List (List AV)} (ho:o.op=.call { callee:=.builtin .len,args:=#[x],argTypes:=#[T] })(hT:P.underlying T=some (.slice e))(hx:σ.ev x=some (.ls n rows)) {m:Nat} (hm:rows.length=m):WV P C o σ (.sc (.int .i64 m)) :=WV.sc λG a w ok=>by
  obtain⟨A,cap,ad,u,e,_⟩:=(ok.l9 hx).2.E8.Ce;exact alK
theorem cO.len {w:World} {T n:Nat} {rows:List (List AV)} {v:Value} {φ:Nat->Prop} {X:Nat->Nat->(Nat->Prop)->AV->Value->Prop} (h:cO w T n rows v φ X):∃ A c,v=.slice A rows.length c:=by
 obtain⟨_,vs,Φ,h4,h5,_⟩:=h;rcases h4.2 with⟨e,e2⟩|⟨g,cap,cur,e,_⟩;all_goals simp_all
def AO.QD:AO->Option (List (List AV))
 | .row _ _ rows=>some rows| .jO _ _ rows=>some rows| .JU _ _ rows _ _ _=>some rows| .rV _ _ rows _ _ _=>some rows| _=>none
theorem o8.len {G:Gh} {w:World} {k:Nat} {ob:AO} {rows:List (List AV)} (h:o8 G w k ob)(hr:ob.QD=some rows):∃ A c,G.h k=.slice A rows.length c:=by cases ob with
 | row T n rs=>cases hr;exact h.2.2.len| jO T n rs=>cases hr;exact h.2.2.len| JU T n rs hi hj y=>cases hr;exact h.2.2.len| rV T n rs hi hj y=>cases hr;exact h.2.2.len| _=>cases hr
theorem WV.aAc {x:Operand} {T e:TypeId} {k:Nat} {ob:AO} {rows:List (List AV)} (ho:o.op=.call { callee:=.builtin .len,args:=#[x],argTypes:=#[T] })(hT:P.underlying T=some (.slice e))(hx:σ.ev x=some (.sl k))(hk:look k σ.M=some ob)(hr:ob.QD=some rows) {m:Nat} (hm:rows.length=m):WV P C o σ (.sc (.int .i64 m)) :=WV.sc λG a w ok=>by
  have e:=(ok.l9 hx).2.lH.1;obtain⟨A,c,e2⟩:=(ok.ob k _ hk).2.2.len hr;rw [e2]at e;exact alK
theorem WV.aAb {x:Operand} {T e:TypeId} {A:Option Addr} {m c:Nat} (ho:o.op=.call { callee:=.builtin .len,args:=#[x],argTypes:=#[T] })(hT:P.underlying T=some (.slice e))(hx:σ.ev x=some (.sc (.slice A m c))):WV P C o σ (.sc (.int .i64 m)) :=WV.sc λG a w ok=>by
  unfold execOp;simp [ho,resolve,invoke,builtin,ok.evs hx,Builtin.len_,run_underlying hT,goInt]
theorem WV.az9 {x:Operand} {T:TypeId} {s:List UInt8} (ho:o.op=.call { callee:=.builtin .len,args:=#[x],argTypes:=#[T] })(hT:P.underlying T=some .string)(hx:σ.ev x=some (.sc (.string (bs s)))):WV P C o σ (.sc (.int .i64 s.length)) :=WV.sc λG a w ok=>by
  unfold execOp;simp [ho,resolve,invoke,builtin,ok.evs hx,Builtin.len_,run_underlying hT,goInt,dI]
theorem RU {b j:Nat} (p:Addr)(h1:p.block=b)(h3:p.spot=none):(p.add j).block=b/\(p.add j).off=p.off+j/\(p.add j).spot=none:=by grind[Addr.add]
end
def aeH (P:Program)(T i:Nat):Option Nat :=match P.underlying T with
 | some (.struct fs) =>match fs[i]? with
  | some f=>if P.cellsOf f.type=0 then none else some f.offset| none=>none
 | _=>none
def zn (P:Program)(T:TypeId):Option Bool :=match P.underlying T with
 | some (.struct _)|some (.array _ _)=>some true| some _=>some false| none=>none
def fZ (P:Program)(T:TypeId):Option Nat:=(P.info? T).map (·.size)
section
variable {P:Program} {C:Cx} {σ σ':St} {o:Oper} {d:Tmp}
theorem kL {T n:Nat} (h:fZ P T=some n)(w:World):(sizeOf T).run P w=.ok n w:=by
 unfold fZ at h;cases hi:P.info? T<;>simp_all[sizeOf,typeInfo]
theorem MV {T:Nat} {b:Bool} (h:zn P T=some b)(w:World):(isAgg T).run P w=.ok b w:=by
 unfold zn at h;cases hu:P.underlying T with
 | none=>simp [hu]at h| some u =>
  unfold isAgg;rw [Sem.run_bind,run_underlying hu w];cases u<;>simp_all
theorem adC {T i off:Nat} (h:aeH P T i=some off)(p:Addr)(w:World):(Instr.fieldAt T (.pointer (some p)) i).run P w=.ok (.pointer (some (p.add off))) w:=by
 unfold aeH at h;cases hu:P.underlying T with
 | none=>simp [hu] at h| some u =>cases u with
  | struct fs =>
   simp only [hu] at h;cases hf:fs[i]? with
   | none=>simp [hf] at h| some f =>
    simp only [hf] at h;by_cases h0:P.cellsOf f.type=0;.simp_all
    .rw [if_neg h0] at h;cases h;cases hq:P.info? f.type<;>simp_all[Program.cellsOf,Instr.fieldAt,Instr.sureAddr,fieldPlace,run_underlying,sizeOf,typeInfo]
  | _=>simp [hu] at h
theorem WV.atl {T:TypeId} {x:Operand} {i off k r j:Nat} (ho:o.op=.fieldAddr T x i)(hf:aeH P T i=some off)(hx:σ.ev x=some (.pt k r j)):WV P C o σ (.pt k r (j+off)) :=WV.val (λG a w ok=>by cases (ok.l9 hx).1 with|pt _ _ _ h=>exact .pt _ _ _ h) λG a w ok=>by
  obtain⟨p,e,h1,h2,h3⟩:=(ok.l9 hx).2.lu;obtain⟨q1,q2,q3⟩:=RU (j:=off) p h1 h3;exact⟨_,by simp_all[execOp,adC],.pt k r (j+off) _ q1 (by omega) q3⟩
theorem WV.atm {T:TypeId} {x:Operand} {i off:Nat} {cells:List AV} (ho:o.op=.fieldAddr T x i) (hf:aeH P T i=some off) (hx:σ.ev x=some (.pr cells)):WV P C o σ (.pr (cells.drop off)) :=WV.val (λ_ _ _ _=>.pr _) λG a w ok=>by
  obtain ⟨p,u,e,h1,h2⟩:=(ok.l9 hx).2.oO.oO;refine ⟨.pointer (some (p.add off)),by simp_all[execOp,adC],.pu _ _ (.pr _ _ (λj=>u (off+j)) (λj av h=>?_) λj av h=>?_)⟩;all_goals simp_all[yw]
theorem QE {T e n:Nat} (hT:P.underlying T=some (.slice e)) (hn:fZ P e=some n) (ad:Addr) (len cap:Nat) (k:IntKind) (z:Int) (h0:0<=z) (h1:z<len) (w:World) :(Instr.indexAt T (.slice (some ad) len cap) (.int k z)).run P w=.ok (.pointer (some (ad.add (z.toNat*n)))) w:=by simp [Instr.indexAt,asIntOf,run_underlying hT,h0,h1,kL hn]
theorem WV.auc {T e n:Nat} {x y:Operand} {rows:List (List AV)} {k:IntKind} {z:Int} {r:List AV} (ho:o.op=.indexAddr T x y) (hT:P.underlying T=some (.slice e)) (hn:fZ P e=some n)(hx:σ.ev x=some (.ls n rows)) (hy:σ.ev y=some (.sc (.int k z))) (h0:0<=z) (hr:rows[z.toNat]?=some r):WV P C o σ (.pr r) :=WV.val (λ_ _ _ _=>.pr _) λG a w ok=>by
  obtain ⟨A,cap,ad,u,e1,h1,h2,h3,h4,_⟩:=(ok.l9 hx).2.E8.Ce;have hlt:z.toNat<rows.length:=(List.getElem?_eq_some_iff.1 hr).1;obtain rfl:=h2 au;refine ⟨.pointer (some (ad.add (z.toNat*n))),by unfold execOp;simp [ho,e1,ok.evs hy,QE hT hn ad rows.length cap k z h0 (by omega)],.pu _ _ (.pr _ _ (λj=>u z.toNat j) (λj av h=>?_) λj av h=>?_)⟩;all_goals grind[yw]
theorem cO.base {w:World} {T n:Nat} {rows:List (List AV)} {v:Value} {φ:Nat->Prop} {b:Nat} {X:Nat->Nat->(Nat->Prop)->AV->Value->Prop} (h:cO w T n rows v φ X) (hg:∀ g,v.ownBlock=some g->g=b) (hp:0<rows.length):∃ c,v=.slice (some ⟨b,0,none⟩) rows.length c:=by
 obtain ⟨_,vs,Φ,h4,h5,_⟩:=h;rcases h4.2 with⟨e,e2⟩|⟨g,cap,cur,e,_⟩;.omega
 .have:=hg g (by rw [e];rfl);grind
def AO.n?:AO->Option Nat
 | .row _ n _=>some n| .jO _ n _=>some n| .JU _ n _ _ _ _=>some n| .rV _ n _ _ _ _=>some n| _=>none
theorem o8.base {G:Gh} {w:World} {k n:Nat} {ob:AO} {rows:List (List AV)} (h:o8 G w k ob) (hr:ob.QD=some rows) (hn:ob.n?=some n) (hp:0<rows.length):G.n k=n/\∃ c,G.h k=.slice (some ⟨G.b k,0,none⟩) rows.length c:=by cases ob with
 | row T n rs=>cases hr;cases hn;exact ⟨h.1,h.2.2.base h.2.1 hp⟩| jO T n rs=>cases hr;cases hn;exact ⟨h.1,h.2.2.base h.2.1 hp⟩| JU T n rs hi hj y=>cases hr;cases hn;exact ⟨h.1,h.2.2.base h.2.1 hp⟩| rV T n rs hi hj y=>cases hr;cases hn;exact ⟨h.1,h.2.2.base h.2.1 hp⟩| _=>cases hr
theorem WV.aud {T e n k:Nat} {ob:AO} {x y:Operand} {rows:List (List AV)} {q:IntKind} {z:Int} (ho:o.op=.indexAddr T x y) (hT:P.underlying T=some (.slice e)) (hn:fZ P e=some n)(hx:σ.ev x=some (.sl k)) (hy:σ.ev y=some (.sc (.int q z))) (hk:look k σ.M=some ob) (hr:ob.QD=some rows) (hn2:ob.n?=some n) (h0:0<=z) (h1:z < rows.length):WV P C o σ (.pt k z.toNat 0) :=WV.val (λG a w ok=>.pt _ _ _ (ok.ob k _ hk).1) λG a w ok=>by
  have e1:=(ok.l9 hx).2.lH.1;obtain ⟨hn3,c,e2⟩:=(ok.ob k _ hk).2.2.base hr hn2 au;rw [e2] at e1;obtain ⟨q1,q2,q3⟩:=RU (j:=z.toNat*n) (⟨G.b k,0,none⟩:Addr) rfl rfl;refine ⟨_,by unfold execOp;simp [ho,e1,ok.evs hy,QE hT hn _ rows.length c q z h0 h1],.pt k z.toNat 0 _ q1 ?_ q3⟩;rw [q2,hn3];simp
theorem RP.bd {F:View} {av:AV} {v:Value} (r:RP F av v)(nk:Nat):Bd nk av:=by induction r with
 | sc v=>exact .sc v| ls n rows A cap ad u _ _ _ _ _ _=>exact .ls n rows| pr cells p u _ _ _=>exact .pr cells| ag l cs h1 _ ih =>
  refine .ag l λi x hx=>?_;exact abI| tu l cs h1 _ ih =>
  refine .tu l λi x hx=>?_;exact abI| fn f l cs h1 _ ih =>
  refine .fn f l λi x hx=>?_;exact abI
def AO.from_:AO->Nat->Nat->Option (List AV)
 | .box _ cells,0,j=>some (cells.drop j)| .box _ _,_+1,_=>none| .row _ _ rows,i,j=>(rows[i]?).map (·.drop j)| .jO _ _ rows,i,j=>(rows[i]?).map (·.drop j)| .JU _ _ _ _ _ _,_,_=>none| .rV _ _ _ _ _ _,_,_=>none| .vK _ _ _,_,_=>none| .opq _,_,_=>none
theorem addr_eq {p:Addr} {b f:Nat} (h1:p.block=b)(h2:p.off=f)(h3:p.spot=none):p =⟨b,f,none⟩:=by cases p;simp_all
theorem uw(b f j:Nat):(⟨b,f,none⟩:Addr).add j =⟨b,f+j,none⟩:=by simp[Addr.add]
theorem cO.Si {w:World} {T n:Nat} {rows:List (List AV)} {v:Value} {φ:Nat->Prop} {b:Nat} {X:Nat->Nat->(Nat->Prop)->AV->Value->Prop} (h:cO w T n rows v φ X) (hg:∀ g,v.ownBlock=some g->g=b) {i j:Nat} {r:List AV} {av:AV} (hr:rows[i]?=some r) (hm:r[j]?=some av) :∃ u,w.cell? ⟨b,i*n+j,none⟩=some u/\∃ ψ,X i j ψ av u:=by
 have hb:=h.base hg (by have:=(List.getElem?_eq_some_iff.1 hr).1;omega);obtain ⟨hrl,vs,Φ,h4,h5,h7,_,_,_,h8,h6⟩:=h;have hi:i<rows.length:=(List.getElem?_eq_some_iff.1 hr).1;have hv:vs[i]?=some vs[i]:=aO (by omega);have e1:=h8 i r _ hr hv;have hj:j<vs[i].length:=by rw [e1];exact (List.getElem?_eq_some_iff.1 hm).1
 have hvl:∀ r∈vs,r.length=n:=by
  intro r' hr';obtain ⟨q,hq,rfl⟩:=oz hr';have:=h8 q rows[q] vs[q] (aO (by omega)) (aO hq);rw [this];exact hrl _ (gB _)
 obtain ⟨A,c,hA,hrd,hat,_⟩:=BG h4 hvl rfl rfl;obtain ⟨c2,hb2⟩:=hb;rw [hb2] at hA;injection hA with hA _ _;subst hA;obtain ⟨ad,had,_,hc⟩:=Rd.at_ (k:=i) hrd au;injection had with had;subst had;refine ⟨_,?_,Φ i j,h6 i r _ j av _ hr hv hm (aO hj)⟩;grind[uw]
theorem Ok.cell {G:Gh} {a:Act} {w:World} (ok:Ok C σ G a w) {k i j m:Nat} {ob:AO} {l:List AV} {av:AV} {p:Addr} (hk:look k σ.M=some ob)(hf:ob.from_ i j=some l)(hm:l[m]?=some av)(h1:p.block=G.b k)(h2:p.off=i*G.n k+j)(h3:p.spot=none)(ho:av.own=false):∃ u,w.cell? (p.add m)=some u/\R G av u/\Bd σ.nk av:=by
 obtain rfl:=addr_eq h1 h2 h3;have h:=ok.ob k ob hk;cases ob with
 | box T cells =>cases i with
  | succ i=>simp [AO.from_]at hf| zero =>
   simp only [AO.from_,Option.some.injEq]at hf;subst hf;rw [Nv]at hm;obtain⟨_,cs,Φ,hb,hs,_,_,hc⟩:=h.2.2;have hlt:j+m<cs.size:=by grind
   refine⟨cs[j+m],?_,(hc _ _ _ hm (vC hlt)).r ho,h.2.1 _ _ hm⟩;rw [uw,AP,oC,hb.cell];simp
 | row T n rows =>
  simp only [AO.from_]at hf;cases hr:rows[i]? with
  | none=>simp [hr]at hf| some r =>
   simp [hr]at hf;subst hf;rw [Nv]at hm;obtain⟨hn,hg,hR⟩:=h.2.2;obtain⟨u,hu,Ψ,hX⟩:=hR.Si hg hr hm;have hp:RP G.F av u:=hX;exact amh
 | jO T n rows =>
  simp only [AO.from_]at hf;cases hr:rows[i]? with
  | none=>simp [hr]at hf| some r =>
   simp [hr]at hf;subst hf;rw [Nv]at hm;obtain⟨hn,hg,hR⟩:=h.2.2;obtain⟨u,hu,Ψ,hX⟩:=hR.Si hg hr hm;have hp:=OW.p hX ho;exact amh
 | JU T n rows hi hj y=>cases hf| rV T n rows hi hj y=>cases hf| vK T e l=>cases hf| opq q=>cases hf
theorem Ht {T:TypeId} {p:Addr} {u:Value} {w:World} (hT:zn P T=some false)(h:w.cell? p=some u):(Instr.loadAt T (.pointer (some p))).run P w=.ok u w:=by simp_all[Instr.loadAt,Instr.sureAddr,loadVar,MV]
theorem QF {T n:Nat} {p:Addr} {cs:List Value} {w:World} (hT:zn P T=some true)(hn:fZ P T=some n)(hl:cs.length=n)(h:∀ j v,cs[j]?=some v->w.cell? (p.add j)=some v):(Instr.loadAt T (.pointer (some p))).run P w=.ok (.agg cs.toArray) w:=by
 have:=run_loadCells_list (P:=P) w p cs h;simp_all[Instr.loadAt,Instr.sureAddr,loadVar,MV,kL]
theorem add_zero'(p:Addr):p.add 0=p:=by simp [Addr.add]
theorem WV.ais {T:TypeId} {x:Operand} {k i j:Nat} {ob:AO} {l:List AV} {av:AV} (ho:o.op=.load T x)(hT:zn P T=some false)(hx:σ.ev x=some (.pt k i j))(hk:look k σ.M=some ob)(hf:ob.from_ i j=some l)(hm:l[0]?=some av)(hw:av.own=false):WV P C o σ av :=WV.val (λG a w ok=>by
  obtain⟨p,e,h1,h2,h3⟩:=(ok.l9 hx).2.lu;obtain⟨u,_,_,hb⟩:=ok.cell hk hf hm h1 h2 h3 hw;exact hb) λG a w ok=>by
  obtain⟨p,e,h1,h2,h3⟩:=(ok.l9 hx).2.lu;obtain⟨u,hu,hr,_⟩:=ok.cell hk hf hm h1 h2 h3 hw;simp_all[add_zero',execOp,Ht]
theorem WV.aum {T:TypeId} {x:Operand} {cells:List AV} {av:AV} (ho:o.op=.load T x)(hT:zn P T=some false)(hx:σ.ev x=some (.pr cells))(hm:cells[0]?=some av):WV P C o σ av :=WV.val (λG a w ok=>by
  obtain⟨p,u,e,h1,h2⟩:=(ok.l9 hx).2.oO.oO;exact (h2 0 av hm).bd _) λG a w ok=>by
  obtain⟨p,u,e,h1,h2⟩:=(ok.l9 hx).2.oO.oO;have hu:=ok.fw _ _ (h1 0 av hm).1;rw [add_zero'] at hu;exact⟨u 0,by simp_all[execOp,Ht],.pu _ _ (h2 0 av hm)⟩
theorem WH {α:Type} (Q:Nat->α->Prop):∀ (n:Nat),(∀ j,j<n->∃ u,Q j u)->∃ l:List α,l.length=n/\∀ j u,l[j]?=some u->Q j u:=by
 intro n;induction n with
 | zero=>simp| succ n ih =>
  intro h;obtain⟨l,hl,hq⟩:=ih λj hj=>h j au;obtain⟨u,hu⟩:=h n au;refine⟨l++[u],by simp [hl],λj v hv=>?_⟩;grind
theorem WV.axp {T n:Nat} {x:Operand} {k i j:Nat} {ob:AO} {l l':List AV} (ho:o.op=.load T x)(hT:zn P T=some true)(hn:fZ P T=some n)(hx:σ.ev x=some (.pt k i j))(hk:look k σ.M=some ob)(hf:ob.from_ i j=some l)(hl:l.take n=l')(hlen:l'.length=n)(hw:l'.all (λav=>!av.own)=true):WV P C o σ (.ag l') :=have hw':∀ (m:Nat) av,l'[m]?=some av->av.own=false:=λm av h=>by grind
 have hle:n<=l.length:=by grind
 have hat:∀ m av,l'[m]?=some av->l[m]?=some av:=λm av h=>by exact alo
 WV.val (λG a w ok=>by
  obtain⟨p,e,h1,h2,h3⟩:=(ok.l9 hx).2.lu;refine .ag _ λm av hm=>?_;obtain⟨u,_,_,hb⟩:=ok.cell hk hf (hat m av hm) h1 h2 h3 (hw' m av hm);exact hb) λG a w ok=>by
  obtain⟨p,e,h1,h2,h3⟩:=(ok.l9 hx).2.lu;obtain⟨cs,hcl,hcq⟩:=WH (λm u=>w.cell? (p.add m)=some u/\∀ av,l'[m]?=some av->R G av u) n λm hm=>by
   have hg:l'[m]?=some l'[m]:=aO (by omega);obtain⟨u,hu,hr,_⟩:=ok.cell hk hf (hat m _ hg) h1 h2 h3 (hw' m _ hg);simp_all
  refine⟨.agg cs.toArray,by unfold execOp;simp [ho,e,QF hT hn hcl λj v h=>(hcq j v h).1],.ag _ _ (by simp [hcl,hlen]) λm av u hm hu=>(hcq m u Rw).2 av hm⟩
theorem WV.aun {T n:Nat} {x:Operand} {l l':List AV} (ho:o.op=.load T x)(hT:zn P T=some true)(hn:fZ P T=some n)(hx:σ.ev x=some (.pr l))(hl:l.take n=l')(hlen:l'.length=n):WV P C o σ (.ag l') :=
 have hat:∀ m av,l'[m]?=some av->l[m]?=some av:=λm av h=>by exact alo
 WV.val (λG a w ok=>by
  obtain⟨p,u,e,h1,h2⟩:=(ok.l9 hx).2.oO.oO;exact .ag _ λm av hm=>(h2 m av (hat m av hm)).bd _) λG a w ok=>by
  obtain⟨p,u,e,h1,h2⟩:=(ok.l9 hx).2.oO.oO;have hh:∀ (j:Nat) v,((List.range n).map u)[j]?=some v->w.cell? (p.add j)=some v:=λj v h=>by
   have hj:j<n:=by grind
   simp [hj] at h;have hg:l'[j]?=some l'[j]:=aO (by omega);rw [← h];exact ok.fw _ _ (h1 j _ (hat j _ hg)).1
  refine⟨.agg ((List.range n).map u).toArray,by unfold execOp;simp only [ho,e];rw [Sem.run_bind,QF hT hn (by simp) hh];rfl,.ag _ _ (by simp [hlen]) λm av v hm hv=>?_⟩;have hj:m<n:=by grind
  simp [hj] at hv;rw [← hv];exact .pu _ _ (h2 m av (hat m av hm))
end
def St.new(σ:St)(ob:AO):St:={ σ with M:=(σ.nk,ob)::σ.M,nk:=σ.nk+1 }
def St.upd(σ:St)(k:Nat)(ob:AO):St:={ σ with M:=(k,ob)::σ.M }
def AV.cells:AV->List AV
 | .ag l=>l| av=>[av]
def AV.l7:AV->Bool
 | .sc v=>v.oneCell'| .tu _=>false| .ow _ _ _=>false| _=>true
def AV.xO:AV->Bool
 | .sc v=>v.oneCell'| .tu _=>false| .ag _=>false| .ow _ _ _=>false| _=>true
section
variable {P:Program} {C:Cx} {σ σ':St} {G G':Gh} {a:Act} {w w':World} {o:Oper} {d:Tmp}
theorem AO.RV {nk bP:Nat} (h:nk<=bP) {ob:AO} (b:ob.bd nk):ob.bd bP:=by cases ob with
 | box T cells=>exact λi av x=>(b i av x).mono h| row T n rows=>trivial| jO T n rows=>trivial| JU T n rows hi hj y=>exact Bd.mono h b| rV T n rows hi hj y=>exact Bd.mono h b| vK T e l=>trivial| opq q=>trivial
theorem Ok.add (ok:Ok C σ G a w) {ob:AO} (h:o8 G w σ.nk ob) (hbd:ob.bd (σ.nk+1))(hown:∀ x,G.fp σ.nk x->C.may x/\x<w.heap.size/\(∀ k o,look k σ.M=some o->¬ G.fp k x)/\∀ p u,G.F p=some u->p.block≠x):Ok C (σ.new ob) G a w:=by
 have hl:∀ k o,look k (σ.new ob).M=some o->(k=σ.nk/\o=ob)\/(k≠σ.nk/\look k σ.M=some o):=λk o hx=>by
  by_cases e:k=σ.nk
  .subst e;rw [show look σ.nk (σ.new ob).M=some ob from aB] at hx;simp_all
  .rw [show look k (σ.new ob).M=look k σ.M from ah e] at hx;simp_all
 refine ⟨ok.sz,⟨ok.df.1,Nat.le_succ_of_le ok.df.2.1,ok.df.2.2⟩,λi av x=>⟨(ok.tm i av x).1,(ok.tm i av x).2.1.mono (xZ _),(ok.tm i av x).2.2⟩,ok.bel,ok.fw,ok.f0,ok.f1,?_,?_,?_,?_⟩
 .intro k o x;rcases hl k o x with⟨rfl,rfl⟩|⟨e,y⟩;.exact ⟨vw _,hbd,h⟩
  .exact ⟨Nat.lt_succ_of_lt (ok.ob k o y).1,AO.RV (xZ _) (ok.ob k o y).2.1,(ok.ob k o y).2.2⟩
 .intro k o x h1 h2;rcases hl k o h1 with⟨rfl,rfl⟩|⟨e,y⟩;.simp_all
  .exact ok.my k o x y h2
 .intro k o k' o' x h1 h2 h3 h4;rcases hl k o h1 with⟨rfl,rfl⟩|⟨e,y⟩;.grind
  .rcases hl k' o' h2 with⟨rfl,rfl⟩|⟨e',y'⟩;.simp_all
   .exact ok.dj k o k' o' x y y' h3 h4
 .intro k o x p u h1 h2 h3;rcases hl k o h1 with⟨rfl,rfl⟩|⟨e,y⟩;.simp_all
  .exact ok.dF k o x p u y h2 h3
def Gh.with(G:Gh)(k:Nat)(b n:Nat)(h:Value)(φ:Nat->Prop):Gh :=⟨G.F,λq=>if q=k then b else G.b q,λq=>if q=k then n else G.n q,λq=>if q=k then h else G.h q,λq=>if q=k then φ else G.fp q⟩
theorem Gh.Ui (G:Gh)(k:Nat)(b n:Nat)(h:Value)(φ:Nat->Prop):G.le (G.with k b n h φ) k:=⟨λ_ _ h=>h,λq hq=>if_neg (by omega),λq hq=>if_neg (by omega),λq hq=>if_neg (by omega)⟩
theorem Gh.adM (G:Gh)(k:Nat)(b n:Nat)(h:Value)(φ:Nat->Prop):∀ q,q<k->(G.with k b n h φ).fp q=G.fp q:=λq hq=>if_neg (by omega)
theorem Ok.aiB (ok:Ok C σ G a w) {cells:List AV} {cs:Array Value} (T:TypeId) (hs:cs.size=cells.length) (hc:∀ (i:Nat) av u,cells[i]?=some av->cs[i]?=some u->R G av u) (hb:∀ (i:Nat) av,cells[i]?=some av->Bd σ.nk av) :∃ G',G.le G' σ.nk/\G'.b σ.nk=w.heap.size/\Ok C (σ.new (.box T cells)) G' a (w.alloc (.cells cs T)):=by
 have hle:=G.Ui σ.nk w.heap.size 0 undef (λx=>x=w.heap.size);have hfp:=G.adM σ.nk w.heap.size 0 undef (λx=>x=w.heap.size);have hbl:∀ x,x<w.heap.size->(w.alloc (.cells cs T)).heap[x]?=w.heap[x]?:=λx hx=>Below.heap_alloc w _ x hx;have ok1:Ok C σ (G.with σ.nk w.heap.size 0 undef (λx=>x=w.heap.size)) a (w.alloc (.cells cs T)) :=ok.world (S:=λ_=>False) hle hfp (Kept.below ((Below.refl _ _).alloc (Nat.le_refl _) _)) (λ_ h=>h.elim) (λk o x h1 h2=>hbl x (ok.my k o x h1 h2).2) (λp u h=>(World.cell?_of_block (hbl _ (aQ (ok.fw p u h)))).trans (ok.fw p u h)) (λ_ _ h=>.inl h);have e1:(G.with σ.nk w.heap.size 0 undef (λx=>x=w.heap.size)).b σ.nk=w.heap.size:=if_pos rfl;have e2:(G.with σ.nk w.heap.size 0 undef (λx=>x=w.heap.size)).fp σ.nk=λx=>x=w.heap.size:=if_pos rfl;refine ⟨_,hle,e1,ok1.add ⟨by rw [e1,e2],cs,λ_ _=>False,?_,hs,λ_ _ h=>h.elim,λ_ _ _ h=>h.elim,λi av u x y=>.inl ((hc i av u x y).mono hle (hb i av x))⟩ (λi av x=>(hb i av x).mono (xZ _)) ?_⟩;.simp_all[yV.new]
 .intro x hx;rw [e2] at hx;obtain rfl:x=w.heap.size:=hx;refine ⟨.inl ok.bel.size,by simp,λk o h1 h2=>?_,λp u h=>?_⟩
  .rw [hfp k (ok.ob k o h1).1] at h2;have:=(ok.my k o _ h1 h2).2;omega
  .have:=aQ (ok.fw p u h);omega
theorem uy {av:AV} {v:Value} (r:R G av v)(hB:av.l7=true):v.cells.size=av.cells.length/\∀ (i:Nat)x u,av.cells[i]?=some x->v.cells[i]?=some u->R G x u:=by
 have one:∀ (av:AV)(v:Value),R G av v->v.oneCell'=true->v.cells.size=[av].length/\∀ (i:Nat)x u,[av][i]?=some x->v.cells[i]?=some u->R G x u:=λav v r h=>by
  have hv:v.cells=#[v]:=by cases v<;>first|rfl|cases h
  grind
 cases av with
 | sc x =>
  have:=r.fM;subst this;exact one _ _ r hB| ag l =>
  obtain⟨cs,rfl,h1,h2⟩:=r.Ed;exact⟨h1,h2⟩| tu l=>cases hB| ls n rows=>obtain⟨A,cap,ad,u,rfl,_⟩:=r.E8.Ce;exact one _ _ r rfl| pr cells=>obtain⟨p,u,rfl,_⟩:=r.oO.oO;exact one _ _ r rfl| pt k i j=>obtain⟨p,rfl,_⟩:=r.lu;exact one _ _ r rfl| sl k=>exact one _ _ r r.lH.2| ow T n rows=>cases hB| fn f l=>obtain⟨cs,rfl,_⟩:=r.Cb;exact one _ _ r (by obtain⟨g,x,y,e⟩:=Zk f cs;rw [e];rfl)
theorem Ef {nk:Nat} {av:AV} (b:Bd nk av):∀ (i:Nat)x,av.cells[i]?=some x->Bd nk x:=by
 have one:∀ av:AV,Bd nk av->∀ (i:Nat)x,[av][i]?=some x->Bd nk x:=λav b i x h=>by grind
 cases av with
 | ag l=>cases b with|ag _ h=>exact h
 | _=>exact one _ b
theorem WO.box {T:TypeId} {x:Operand} {av:AV} {l:List AV} {n:Nat} (ho:o.op=.box T x) (hds:o.dst=some d) (hd:Nat.blt d C.N=true) (hx:σ.ev x=some av) (hB:av.l7=true) (hl:av.cells=l) (hn:σ.nk=n):WO P C o σ ((σ.new (.box T l)).put d (.pt n 0 0)):=by
 intro G a w ok N Q' hN;obtain ⟨hb,hr⟩:=ok.l9 hx;obtain ⟨h1,h2⟩:=uy hr hB;obtain ⟨G',hle,hbb,ok'⟩:=ok.aiB T h1 h2 (Ef hb);refine lN ?_;simp only [ho,Instr.box,newVar,newRow,Sem.run_bind,Sem.run_pure,run_newObj,Result.andThen_ok];show N (a.put o.dst _) _;rw [hds];subst hl hn;exact alj
theorem WO.alloc {T:TypeId} {z:Value} {l:List AV} {n:Nat} (ho:o.op=.alloc T) (hz:(P.info? T).bind (·.zero)=some z) (hds:o.dst=some d) (hd:Nat.blt d C.N=true) (hl:z.cells.toList.map .sc=l) (hn:σ.nk=n):WO P C o σ ((σ.new (.box T l)).put d (.pt n 0 0)):=by
 intro G a w ok N Q' hN;have hc:∀ (i:Nat) av u,l[i]?=some av->z.cells[i]?=some u->R G av u:=λi av u x y=>by
  rw [← hl,dw] at x;rw [show z.cells.toList[i]?=z.cells[i]? by simp,y] at x;cases x;exact .pu _ _ (.sc _)
 have hb:∀ (i:Nat) av,l[i]?=some av->Bd σ.nk av:=λi av x=>by
  rw [← hl,dw] at x;cases hq:z.cells.toList[i]? with
  | none=>simp [hq] at x| some u=>simp [hq] at x;rw [← x];exact .sc _
 obtain ⟨G',hle,hbb,ok'⟩:=ok.aiB (cells:=l) (cs:=z.cells) T (by rw [← hl];simp) hc hb;cases hi:P.info? T with
 | none=>simp [hi] at hz| some i =>
  simp [hi] at hz;refine lN ?_;simp only [ho,Instr.alloc,zeroValue,typeInfo,newVar,newRow,Sem.run_bind,Sem.run_pure,run_newObj,Result.andThen_ok,run_program,hi,hz];show N (a.put o.dst _) _;rw [hds];subst hn;exact alj
end
end
end Go.Proofs.YthohlofpphjofaaGreatDoor
