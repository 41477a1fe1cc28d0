/- A walk that knows values as trees and its own memory as a list of objects, each with all the blocks that belong to it: what is known, and what it means. -/
import Derived.Handy
import Derived.WalkLawsBesides
import Derived.Deep.AppendLies
import Derived.Deep.MidRow
import Derived.Lib.Hide
set_option linter.unusedVariables false
set_option linter.unusedSimpArgs false
namespace Go.Proofs.YthohlofpphjofaaGreatDoor
theorem aB:type_of% @List.getElem?_eq_getElem:=@List.getElem?_eq_getElem
theorem aP:type_of% @Nat.le_of_ble_eq_true:=@Nat.le_of_ble_eq_true
theorem aY:type_of% @List.mem_of_getElem?:=@List.mem_of_getElem?
theorem bC:type_of% @List.getElem?_map:=@List.getElem?_map
theorem bJ:type_of% @List.length_append:=@List.length_append
theorem dw:type_of% @Bool.and_eq_true:=@Bool.and_eq_true
theorem dH:type_of% @List.length_map:=@List.length_map
theorem dW:type_of% @decide_eq_false:=@decide_eq_false
theorem fA:type_of% @List.getElem_mem:=@List.getElem_mem
theorem fQ:type_of% @decide_eq_true:=@decide_eq_true
theorem bD:type_of% @decide_eq_true_eq:=@decide_eq_true_eq
theorem bK:type_of% @decide_eq_false_iff_not:=@decide_eq_false_iff_not
theorem bV:type_of% @Array.getD_eq_getD_getElem?:=@Array.getD_eq_getD_getElem?
theorem bW:type_of% @List.length_cons:=@List.length_cons
theorem dn:type_of% @Bool.not_eq_true':=@Bool.not_eq_true'
theorem dB:type_of% @Int.toNat_natCast:=@Int.toNat_natCast
theorem dD:type_of% @Nat.zero_le:=@Nat.zero_le
theorem dI:type_of% @List.getD_eq_getElem?_getD:=@List.getD_eq_getElem?_getD
theorem dM:type_of% @Int.not_lt:=@Int.not_lt
theorem dN:type_of% @Int.not_le:=@Int.not_le
theorem dO:type_of% @Bool.not_eq_false':=@Bool.not_eq_false'
theorem dP:type_of% @Int.eq_ofNat_of_zero_le:=@Int.eq_ofNat_of_zero_le
theorem dQ:type_of% @Nat.eq_of_beq_eq_true:=@Nat.eq_of_beq_eq_true
theorem fE:type_of% @List.take_length:=@List.take_length
theorem fZ:type_of% @List.getElem_of_mem:=@List.getElem_of_mem
theorem gq:type_of% @List.take_succ_eq_append_getElem:=@List.take_succ_eq_append_getElem
theorem gK:type_of% @List.map_append:=@List.map_append
theorem iC:type_of% @List.length_nil:=@List.length_nil
theorem iD:type_of% @Nat.le_trans:=@Nat.le_trans
theorem jr:type_of% @Nat.lt_of_lt_of_le:=@Nat.lt_of_lt_of_le
theorem jR:type_of% @List.length_take:=@List.length_take
theorem jS:type_of% @List.all_eq_true:=@List.all_eq_true
theorem jT:type_of% @List.ext_getElem:=@List.ext_getElem
theorem kG:type_of% @Option.map_some:=@Option.map_some
theorem kU:type_of% @List.eq_nil_of_length_eq_zero:=@List.eq_nil_of_length_eq_zero
theorem kV:type_of% @List.drop_eq_getElem_cons:=@List.drop_eq_getElem_cons
theorem lC:type_of% @List.take_of_length_le:=@List.take_of_length_le
theorem lD:type_of% @List.append_assoc:=@List.append_assoc
theorem lF:type_of% @List.getElem?_set_ne:=@List.getElem?_set_ne
theorem mG:type_of% @List.append_nil:=@List.append_nil
theorem mJ:type_of% @Nat.zero_add:=@Nat.zero_add
theorem ni:type_of% @Int.le_refl:=@Int.le_refl
theorem ny:type_of% @List.getElem?_set_self:=@List.getElem?_set_self
theorem nC:type_of% @of_decide_eq_true:=@of_decide_eq_true
theorem nD:type_of% @Array.getElem?_setIfInBounds_ne:=@Array.getElem?_setIfInBounds_ne
theorem nG:type_of% @Nat.ble_eq_true_of_le:=@Nat.ble_eq_true_of_le
theorem ou:type_of% @Nat.lt_succ_self:=@Nat.lt_succ_self
theorem oz:type_of% @List.eq_of_mem_replicate:=@List.eq_of_mem_replicate
theorem oC:type_of% @List.map_map:=@List.map_map
theorem pq:type_of% @Array.getElem?_eq_getElem:=@Array.getElem?_eq_getElem
theorem qJ:type_of% @Nat.lt_or_ge:=@Nat.lt_or_ge
theorem qK:type_of% @List.length_drop:=@List.length_drop
theorem qL:type_of% @List.getElem?_append_right:=@List.getElem?_append_right
theorem qM:type_of% @List.map_cons:=@List.map_cons
theorem qN:type_of% @List.drop_eq_nil_of_le:=@List.drop_eq_nil_of_le
theorem qO:type_of% @List.map_congr_left:=@List.map_congr_left
theorem sS:type_of% @List.getElem?_append_left:=@List.getElem?_append_left
theorem uG:type_of% @Nat.zero_mul:=@Nat.zero_mul
theorem uH:type_of% @Nat.le_succ:=@Nat.le_succ
theorem uI:type_of% @Array.ext':=@Array.ext'
theorem uJ:type_of% @List.foldl_cons:=@List.foldl_cons
theorem uK:type_of% @List.getElem_cons_zero:=@List.getElem_cons_zero
theorem vY:type_of% @Nat.add_zero:=@Nat.add_zero
theorem vZ:type_of% @List.mem_singleton:=@List.mem_singleton
theorem yK:type_of% @of_decide_eq_false:=@of_decide_eq_false
theorem yL:type_of% @Array.getElem?_append_left:=@Array.getElem?_append_left
theorem yM:type_of% @Bool.or_eq_true:=@Bool.or_eq_true
theorem yN:type_of% @List.not_mem_nil:=@List.not_mem_nil
theorem Az:type_of% @List.map_set:=@List.map_set
theorem AA:type_of% @List.flatten_cons:=@List.flatten_cons
theorem AB:type_of% @Bool.or_eq_false_iff:=@Bool.or_eq_false_iff
theorem AL:type_of% @List.getElem_mapIdx:=@List.getElem_mapIdx
theorem EO:type_of% @Option.getD_some:=@Option.getD_some
theorem EP:type_of% @List.length_singleton:=@List.length_singleton
theorem ET:type_of% @Nat.add_assoc:=@Nat.add_assoc
theorem EU:type_of% @Option.bind_some:=@Option.bind_some
theorem EW:type_of% @Nat.sub_zero:=@Nat.sub_zero
theorem EX:type_of% @Option.map_none:=@Option.map_none
theorem EY:type_of% @List.mem_of_mem_take:=@List.mem_of_mem_take
theorem EZ:type_of% @Nat.mul_one:=@Nat.mul_one
theorem E5:type_of% @Bool.false_or:=@Bool.false_or
theorem E8:type_of% @List.mem_cons:=@List.mem_cons
theorem Fa:type_of% @List.getElem_append_left:=@List.getElem_append_left
theorem Fb:type_of% @List.take_append_drop:=@List.take_append_drop
theorem Fe:type_of% @Bool.eq_iff_iff:=@Bool.eq_iff_iff
theorem Fg:type_of% @List.range'_succ:=@List.range'_succ
theorem I4:type_of% @Nat.succ_mul:=@Nat.succ_mul
theorem I5:type_of% @List.map_nil:=@List.map_nil
theorem I7:type_of% @List.getElem?_drop:=@List.getElem?_drop
theorem I8:type_of% @List.size_toArray:=@List.size_toArray
theorem I9:type_of% @List.length_set:=@List.length_set
theorem Ja:type_of% @List.cons_append:=@List.cons_append
theorem Jb:type_of% @Nat.lt_trichotomy:=@Nat.lt_trichotomy
theorem Jc:type_of% @Nat.le_add_right:=@Nat.le_add_right
theorem Jd:type_of% @List.flatMap_append:=@List.flatMap_append
theorem Je:type_of% @beq_iff_eq:=@beq_iff_eq
theorem Jf:type_of% @List.map_id:=@List.map_id
theorem Jg:type_of% @List.length_mapIdx:=@List.length_mapIdx
theorem Jh:type_of% @Int.natCast_add:=@Int.natCast_add
theorem Qg:type_of% @List.nil_append:=@List.nil_append
theorem Et:type_of% @List.length_replicate:=@List.length_replicate
theorem Eu:type_of% @Nat.sub_self:=@Nat.sub_self
theorem Ew:type_of% @List.foldl_append:=@List.foldl_append
theorem Ey:type_of% @List.takeWhile_cons:=@List.takeWhile_cons
theorem Ez:type_of% @List.takeWhile_sublist:=@List.takeWhile_sublist
theorem EC:type_of% @List.getElem?_take_of_lt:=@List.getElem?_take_of_lt
theorem ED:type_of% @Nat.not_lt_zero:=@Nat.not_lt_zero
theorem EF:type_of% @Nat.add_comm:=@Nat.add_comm
theorem EG:type_of% @List.mem_cons_of_mem:=@List.mem_cons_of_mem
theorem EH:type_of% @List.mem_append_left:=@List.mem_append_left
theorem EI:type_of% @Bool.false_eq_true:=@Bool.false_eq_true
theorem EJ:type_of% @List.getElem_set:=@List.getElem_set
theorem EK:type_of% @List.getElem_map:=@List.getElem_map
theorem EL:type_of% @List.find?_eq_none:=@List.find?_eq_none
theorem EM:type_of% @List.range_eq_range':=@List.range_eq_range'
theorem EN:type_of% @Int.natCast_nonneg:=@Int.natCast_nonneg
theorem Lr:type_of% @List.set_append_right:=@List.set_append_right
theorem Ls:type_of% @List.replicate_succ:=@List.replicate_succ
theorem Lu:type_of% @List.filter_append:=@List.filter_append
theorem LC:type_of% @List.filter_cons_of_pos:=@List.filter_cons_of_pos
theorem LD:type_of% @Nat.mul_le_mul_right:=@Nat.mul_le_mul_right
theorem LH:type_of% @List.mem_or_eq_of_mem_set:=@List.mem_or_eq_of_mem_set
theorem LJ:type_of% @Array.length_toList:=@Array.length_toList
theorem LK:type_of% @Nat.mul_le_mul:=@Nat.mul_le_mul
theorem LM:type_of% @List.range_succ:=@List.range_succ
theorem LP:type_of% @List.getElem?_set:=@List.getElem?_set
theorem LQ:type_of% @Bool.true_and:=@Bool.true_and
theorem LU:type_of% @List.take_zero:=@List.take_zero
theorem LW:type_of% @List.flatMap_cons:=@List.flatMap_cons
theorem LX:type_of% @List.filter_eq_nil_iff:=@List.filter_eq_nil_iff
theorem LY:type_of% @List.getElem_cons_succ:=@List.getElem_cons_succ
theorem LZ:type_of% @List.getElem_take:=@List.getElem_take
theorem L6:type_of% @List.map_drop:=@List.map_drop
theorem L8:type_of% @List.length_reverse:=@List.length_reverse
theorem L9:type_of% @Int.natCast_one:=@Int.natCast_one
theorem TY:type_of% @List.getElem?_eq_none:=@List.getElem?_eq_none
theorem Ua:type_of% @List.getElem?_replicate:=@List.getElem?_replicate
theorem Ub:type_of% @List.getElem?_range:=@List.getElem?_range
theorem Uc:type_of% @List.set_cons_zero:=@List.set_cons_zero
theorem Ud:type_of% @List.takeWhile_prefix:=@List.takeWhile_prefix
theorem Ue:type_of% @List.filter_cons_of_neg:=@List.filter_cons_of_neg
theorem Uf:type_of% @Array.getElem?_eq_none:=@Array.getElem?_eq_none
theorem Ug:type_of% @List.set_cons_succ:=@List.set_cons_succ
theorem Uh:type_of% @List.getElem?_toArray:=@List.getElem?_toArray
theorem Ui:type_of% @List.flatten_append:=@List.flatten_append
theorem Uj:type_of% @Array.replicate_succ:=@Array.replicate_succ
theorem Uk:type_of% @Array.replicate_zero:=@Array.replicate_zero
theorem Ul:type_of% @List.append_toArray:=@List.append_toArray
theorem Um:type_of% @List.getElem_append_right:=@List.getElem_append_right
theorem Un:type_of% @List.getElem_range:=@List.getElem_range
theorem Uo:type_of% @Nat.mul_le_mul_left:=@Nat.mul_le_mul_left
theorem Ur:type_of% @Array.getElem?_modify:=@Array.getElem?_modify
theorem Us:type_of% @Option.map_eq_some_iff:=@Option.map_eq_some_iff
theorem jy {p:Prop}(h:p:=by
 simpa using this):p:=h
section
open Go.RowKit
theorem aj {p:Prop} (h:p:=by omega):p:=h
theorem aK {α:Sort _} {a b:α} (h:a = b:=by kernel_rfl):a = b:=h
theorem vK {p:Prop} (h:p:=by first|omega|(simp;done)|(simp;omega)):p:=h
structure aS(q:Prop):Type where
 k:q
theorem Ba {p:Prop}(h:p:=by simp [h]):p:=h
theorem FD {p:Prop}(h:p:=by repeat constructor):p:=h
theorem uT {p:Prop}(h:p:=by simpa using h):p:=h
theorem FH {p:Prop}(h:p:=by first|(simp;done)|fail):p:=h
theorem uS {p:Prop}(h:p:=by (unfold I64);omega):p:=h
theorem ZN {p:Prop}(h:p:=by first|exact wI (by omega)|exact Kq (by omega) (by omega)):p:=h
theorem GI {p:Prop}(h:p:=by first|exact dH _|exact Et|rfl):p:=h
theorem lS {p q:Prop}(k:q)(h:aS q→p:=by (intro hq;(first|refine WL.ar rfl rfl uS ?_|refine WL.len rfl rfl GI ?_|refine WL.idx rfl rfl (by omega) ZN ?_);exact hq.k)):p:=h ⟨k⟩
theorem GH {p q:Prop}(k:q)(h:aS q→p:=by (intro hq;(first|refine W.gob rfl ?_|refine WL.nil ?_|refine WL.bt rfl rfl rfl (by omega) ?_|refine WL.bf rfl rfl rfl (by omega) ?_);exact hq.k)):p:=h ⟨k⟩
theorem qU {p q:Prop}(k:q)(h:aS q→p:=by (intro hq;(first|refine WL.gyes rfl rfl rfl rfl ?_|refine WL.opno rfl rfl rfl rfl rfl rfl rfl ?_);exact hq.k)):p:=h ⟨k⟩
theorem ku {p q:Prop}(k:q)(h:aS q→p:=by (intro hq;(first|refine W.condT rfl ?_|refine W.condF rfl ?_);exact hq.k)):p:=h ⟨k⟩
theorem Fz {p q:Prop}(k:q)(h:aS q→p:=by (intro hq;(first|refine WL.ar rfl rfl uS ?_|refine WL.len rfl rfl GI ?_);exact hq.k)):p:=h ⟨k⟩
theorem Md {p q:Prop}(k:q)(h:aS q→p:=by (intro hq;(first|refine WL.nt rfl rfl rfl (by omega) ?_|refine WL.nf rfl rfl rfl (by omega) ?_|refine WL.e1 rfl ?_);exact hq.k)):p:=h ⟨k⟩
theorem Ux {p q:Prop}(k:q)(h:aS q→p:=by (intro hq;(first|refine WL.len rfl rfl GI ?_|refine ku ?_);exact hq.k)):p:=h ⟨k⟩
theorem yP {p q:Prop}(k:q)(h:aS q→p:=by (intro hq;(first|refine W.go rfl ?_|refine WL.nil ?_|refine WL.ev rfl ?_);exact hq.k)):p:=h ⟨k⟩
theorem ZM {p q:Prop}(k:q)(h:aS q→p:=by (intro hq;(first|refine GH ?_|refine WL.e1 rfl ?_|refine qU ?_|refine WL.ar rfl rfl uS ?_);exact hq.k)):p:=h ⟨k⟩
theorem yQ {p q:Prop}(k:q)(h:aS q→p:=by (intro hq;(first|refine W.gob rfl ?_|refine WL.nil ?_);exact hq.k)):p:=h ⟨k⟩
theorem sU {p q:Prop}(k:q)(h:aS q→p:=by (intro hq;(first|refine WL.app rfl rfl rfl vK ?_|refine ku ?_);exact hq.k)):p:=h ⟨k⟩
theorem oD {p q:Prop}(k:q)(h:aS q→p:=by (intro hq;(first|refine GH ?_|refine WL.e1 rfl ?_);exact hq.k)):p:=h ⟨k⟩
theorem yO {p q:Prop}(k:q)(h:aS q→p:=by (intro hq;(first|refine WL.cat rfl rfl vK ?_|refine ku ?_);exact hq.k)):p:=h ⟨k⟩
theorem aiu {p q:Prop}(k:q)(h:aS q→p:=by (intro hq;(first|refine WL.gyes rfl rfl rfl rfl ?_|refine WL.len rfl rfl GI ?_|refine WL.idx rfl rfl (by omega) ZN ?_);exact hq.k)):p:=h ⟨k⟩
theorem Fq {p q:Prop}(k:q)(h:aS q→p:=by (intro hq;(first|refine WL.vl rfl (WV.nch rfl rfl) ?_|refine yQ ?_);exact hq.k)):p:=h ⟨k⟩
theorem WM {p q:Prop}(k:q)(h:aS q→p:=by (intro hq;(first|refine WL.ar rfl rfl uS ?_|refine WL.len rfl rfl rfl ?_);exact hq.k)):p:=h ⟨k⟩
theorem Fv {p q:Prop}(k:q)(h:aS q→p:=by (intro hq;(first|refine GH ?_|refine Md ?_|refine qU ?_);exact hq.k)):p:=h ⟨k⟩
theorem AZ {p q:Prop}(k:q)(h:aS q→p:=by (intro hq;(first|refine W.go rfl ?_|refine WL.ev rfl ?_);exact hq.k)):p:=h ⟨k⟩
theorem Jl {p q:Prop}(k:q)(h:aS q→p:=by (intro hq;(first|refine WL.ixs rfl rfl vK ?_|refine ku ?_);exact hq.k)):p:=h ⟨k⟩
theorem WQ {p q:Prop}(k:q)(h:aS q→p:=by (intro hq;(first|refine WL.nf rfl rfl rfl (by omega) ?_|refine WL.e1 rfl ?_);exact hq.k)):p:=h ⟨k⟩
theorem fU {p q:Prop}(k:q)(h:aS q→p:=by
 intro hq
 unfold Oper.wp execOp
 exact hq.k):p:=h ⟨k⟩
theorem Ut {p q:Prop} (k:q) (h:aS q→p:=by (intro hq;(repeat (first|refine oD ?_|refine qU ?_|refine ku ?_);(first|refine (?_:W _ _ _ _ _)|refine (?_:WL _ _ _ _ _ _)|skip);try dsimp only [St.put,Nat.reduceAdd]);exact hq.k)):p:=h ⟨k⟩
theorem acW {p q:Prop} (k:q) (h:aS q→p:=by (intro hq;(repeat (first|refine yP ?_|refine qU ?_|refine Fz ?_|refine ku ?_);(first|refine (?_:W _ _ _ _ _)|refine (?_:WL _ _ _ _ _ _)|skip);try dsimp only [St.put,Nat.reduceAdd]);exact hq.k)):p:=h ⟨k⟩
theorem Uw {p q:Prop} (k:q) (h:aS q→p:=by (intro hq;(repeat (first|refine Fv ?_|refine Fz ?_|refine ku ?_);(first|refine (?_:W _ _ _ _ _)|refine (?_:WL _ _ _ _ _ _)|skip);try dsimp only [St.put,Nat.reduceAdd]);exact hq.k)):p:=h ⟨k⟩
theorem uM {p q:Prop} (k:q) (h:aS q→p:=by (intro hq;(repeat (first|refine oD ?_|refine qU ?_|refine Fz ?_|refine ku ?_);(first|refine (?_:W _ _ _ _ _)|refine (?_:WL _ _ _ _ _ _)|skip);try dsimp only [St.put,Nat.reduceAdd]);exact hq.k)):p:=h ⟨k⟩
theorem amA {p q:Prop} (k:q) (h:aS q→p:=by (intro hq;(repeat (first|refine DMK.st rfl rfl ?_|refine DMK.ar rfl rfl uS ?_|refine DMK.idx rfl rfl (by omega) ZN ?_|refine DMK.s1 rfl (by kernel_rfl) rfl ?_|refine DMK.bd rfl rfl rfl FD ?_|refine DMK.ap rfl rfl vK FD ?_|refine DMK.nil ?_));exact hq.k)):p:=h ⟨k⟩
theorem amB {p q:Prop} (k:q) (h:aS q→p:=by(intro hq;(repeat(first|refine W.go rfl ?_);(first|refine(?_:W _ _ _ _ _)|refine(?_:WL _ _ _ _ _ _)|skip);try dsimp only [St.put,Nat.reduceAdd]);exact hq.k)):p:=h ⟨k⟩
theorem aoo {p q:Prop} (k:q) (h:aS q→p:=by (intro hq;(repeat (first|refine W.go rfl ?_|refine WL.nil ?_|refine Fz ?_|refine yO ?_);(first|refine (?_:W _ _ _ _ _)|refine (?_:WL _ _ _ _ _ _)|skip);try dsimp only [St.put,Nat.reduceAdd]);exact hq.k)):p:=h ⟨k⟩
theorem BJ {p q:Prop} (k:q) (h:aS q→p:=by (intro hq;(repeat (first|refine GH ?_|refine Md ?_|refine Fz ?_|refine yO ?_);(first|refine (?_:W _ _ _ _ _)|refine (?_:WL _ _ _ _ _ _)|skip);try dsimp only [St.put,Nat.reduceAdd]);exact hq.k)):p:=h ⟨k⟩
theorem ZL {p q:Prop} (k:q) (h:aS q→p:=by (intro hq;(repeat (first|refine yP ?_|refine qU ?_|refine Ux ?_);(first|refine (?_:W _ _ _ _ _)|refine (?_:WL _ _ _ _ _ _)|skip);try dsimp only [St.put,Nat.reduceAdd]);exact hq.k)):p:=h ⟨k⟩
theorem ak1 {p q:Prop} (k:q) (h:aS q→p:=by (intro hq;(repeat (first|refine oD ?_|refine qU ?_|refine Ux ?_);(first|refine (?_:W _ _ _ _ _)|refine (?_:WL _ _ _ _ _ _)|skip);try dsimp only [St.put,Nat.reduceAdd]);exact hq.k)):p:=h ⟨k⟩
theorem mM {p q:Prop} (k:q) (h:aS q→p:=by (intro hq;(repeat (first|refine yP ?_|refine qU ?_|refine lS ?_|refine sU ?_);(first|refine (?_:W _ _ _ _ _)|refine (?_:WL _ _ _ _ _ _)|skip);try dsimp only [St.put,Nat.reduceAdd]);exact hq.k)):p:=h ⟨k⟩
theorem wo {p q:Prop} (k:q) (h:aS q→p:=by (intro hq;(repeat (first|refine oD ?_|refine qU ?_|refine lS ?_|refine sU ?_);(first|refine (?_:W _ _ _ _ _)|refine (?_:WL _ _ _ _ _ _)|skip);try dsimp only [St.put,Nat.reduceAdd]);exact hq.k)):p:=h ⟨k⟩
theorem WC {p q:Prop} (k:q) (h:aS q→p:=by(intro hq;(repeat(first|refine W.go rfl ?_|refine WL.nil ?_|refine WL.ev rfl ?_|refine W.condT rfl ?_|refine W.condF rfl ?_);(first|refine(?_:W _ _ _ _ _)|refine(?_:WL _ _ _ _ _ _)|skip);try dsimp only [St.put,Nat.reduceAdd]);exact hq.k)):p:=h ⟨k⟩
theorem amu {p q:Prop} (k:q) (h:aS q→p:=by (intro hq;(repeat (first|refine yQ ?_|refine WL.nt rfl rfl rfl (by omega) ?_|refine WL.e1 rfl ?_|refine ku ?_);(first|refine (?_:W _ _ _ _ _)|refine (?_:WL _ _ _ _ _ _)|skip);try dsimp only [St.put,Nat.reduceAdd]);exact hq.k)):p:=h ⟨k⟩
theorem qP {p q:Prop} (k:q) (h:aS q→p:=by(intro hq;(repeat(first|refine W.go rfl ?_|refine WL.ev rfl ?_);(first|refine(?_:W _ _ _ _ _)|refine(?_:WL _ _ _ _ _ _)|skip);try dsimp only [St.put,Nat.reduceAdd]);exact hq.k)):p:=h ⟨k⟩
theorem AP {p q:Prop} (k:q) (h:aS q→p:=by (intro hq;(repeat (first|refine yP ?_|refine lS ?_|refine Jl ?_);(first|refine (?_:W _ _ _ _ _)|refine (?_:WL _ _ _ _ _ _)|skip);try dsimp only [St.put,Nat.reduceAdd]);exact hq.k)):p:=h ⟨k⟩
theorem Qh {p q:Prop} (k:q) (h:aS q→p:=by (intro hq;(repeat (first|refine oD ?_|refine lS ?_|refine Jl ?_);(first|refine (?_:W _ _ _ _ _)|refine (?_:WL _ _ _ _ _ _)|skip);try dsimp only [St.put,Nat.reduceAdd]);exact hq.k)):p:=h ⟨k⟩
theorem ah8 {p q:Prop} (k:q) (h:aS q→p:=by(intro hq;(repeat(first|refine W.go rfl ?_|refine WL.nil ?_|refine W.condT rfl ?_);(first|refine(?_:W _ _ _ _ _)|refine(?_:WL _ _ _ _ _ _)|skip);try dsimp only [St.put,Nat.reduceAdd]);exact hq.k)):p:=h ⟨k⟩
theorem amv {p q:Prop} (k:q) (h:aS q→p:=by (intro hq;(repeat (first|refine yQ ?_|refine WL.nt rfl rfl rfl (by omega) ?_|refine WL.e1 rfl ?_|refine W.condT rfl ?_);(first|refine (?_:W _ _ _ _ _)|refine (?_:WL _ _ _ _ _ _)|skip);try dsimp only [St.put,Nat.reduceAdd]);exact hq.k)):p:=h ⟨k⟩
theorem AQ {p q:Prop} (k:q) (h:aS q→p:=by (intro hq;(repeat (first|refine yP ?_|refine Fz ?_|refine Jl ?_);(first|refine (?_:W _ _ _ _ _)|refine (?_:WL _ _ _ _ _ _)|skip);try dsimp only [St.put,Nat.reduceAdd]);exact hq.k)):p:=h ⟨k⟩
theorem mO {p q:Prop} (k:q) (h:aS q→p:=by (intro hq;(repeat (first|refine oD ?_|refine Fz ?_|refine Jl ?_);(first|refine (?_:W _ _ _ _ _)|refine (?_:WL _ _ _ _ _ _)|skip);try dsimp only [St.put,Nat.reduceAdd]);exact hq.k)):p:=h ⟨k⟩
theorem Qi {p q:Prop} (k:q) (h:aS q→p:=by(intro hq;(repeat(first|refine W.gob rfl ?_|refine WL.nil ?_|refine WL.e1 rfl ?_|refine W.condT rfl ?_);(first|refine(?_:W _ _ _ _ _)|refine(?_:WL _ _ _ _ _ _)|skip);try dsimp only [St.put,Nat.reduceAdd]);exact hq.k)):p:=h ⟨k⟩
theorem amw {p q:Prop} (k:q) (h:aS q→p:=by(intro hq;(repeat(first|refine W.go rfl ?_|refine WL.nil ?_|refine W.condF rfl ?_);(first|refine(?_:W _ _ _ _ _)|refine(?_:WL _ _ _ _ _ _)|skip);try dsimp only [St.put,Nat.reduceAdd]);exact hq.k)):p:=h ⟨k⟩
theorem ah9 {p q:Prop} (k:q) (h:aS q→p:=by(intro hq;(repeat(first|refine W.gob rfl ?_|refine WL.nil ?_|refine WL.e1 rfl ?_|refine W.condF rfl ?_);(first|refine(?_:W _ _ _ _ _)|refine(?_:WL _ _ _ _ _ _)|skip);try dsimp only [St.put,Nat.reduceAdd]);exact hq.k)):p:=h ⟨k⟩
theorem AU {p q:Prop} (k:q) (h:aS q→p:=by (intro hq;(repeat (first|refine W.go rfl ?_|refine WL.nil ?_|refine qU ?_|refine lS ?_|refine WL.app rfl rfl rfl vK ?_|refine yO ?_);(first|refine (?_:W _ _ _ _ _)|refine (?_:WL _ _ _ _ _ _)|skip);try dsimp only [St.put,Nat.reduceAdd]);exact hq.k)):p:=h ⟨k⟩
theorem iE {p q:Prop} (k:q) (h:aS q→p:=by (intro hq;(repeat (first|refine Fv ?_|refine lS ?_|refine WL.app rfl rfl rfl vK ?_|refine yO ?_);(first|refine (?_:W _ _ _ _ _)|refine (?_:WL _ _ _ _ _ _)|skip);try dsimp only [St.put,Nat.reduceAdd]);exact hq.k)):p:=h ⟨k⟩
theorem qQ {p q:Prop} (k:q) (h:aS q→p:=by (intro hq;(repeat (first|refine ZM ?_|refine WL.div rfl rfl (by omega) ?_|refine ku ?_);(first|refine (?_:W _ _ _ _ _)|refine (?_:WL _ _ _ _ _ _)|skip);try dsimp only [St.put,Nat.reduceAdd]);exact hq.k)):p:=h ⟨k⟩
theorem aia {p q:Prop} (k:q) (h:aS q→p:=by(intro hq;(repeat(first|refine W.go rfl ?_|refine WL.nil ?_|refine W.condT rfl ?_|refine W.condF rfl ?_);(first|refine(?_:W _ _ _ _ _)|refine(?_:WL _ _ _ _ _ _)|skip);try dsimp only [St.put,Nat.reduceAdd]);exact hq.k)):p:=h ⟨k⟩
theorem kW {p q:Prop} (k:q) (h:aS q→p:=by (intro hq;(repeat (first|refine GH ?_|refine Md ?_|refine ku ?_);(first|refine (?_:W _ _ _ _ _)|refine (?_:WL _ _ _ _ _ _)|skip);try dsimp only [St.put,Nat.reduceAdd]);exact hq.k)):p:=h ⟨k⟩
theorem AX {p q:Prop} (k:q) (h:aS q→p:=by (intro hq;(repeat (first|refine AZ ?_|refine qU ?_|refine WL.len rfl rfl GI ?_);(first|refine (?_:W _ _ _ _ _)|refine (?_:WL _ _ _ _ _ _)|skip);try dsimp only [St.put,Nat.reduceAdd]);exact hq.k)):p:=h ⟨k⟩
theorem iQ {p q:Prop} (k:q) (h:aS q→p:=by (intro hq;(repeat (first|refine AZ ?_|refine WL.gyes rfl rfl rfl rfl ?_|refine Fz ?_|refine W.condF rfl ?_);(first|refine (?_:W _ _ _ _ _)|refine (?_:WL _ _ _ _ _ _)|skip);try dsimp only [St.put,Nat.reduceAdd]);exact hq.k)):p:=h ⟨k⟩
theorem aib {p q:Prop} (k:q) (h:aS q→p:=by (intro hq;(repeat (first|refine AZ ?_|refine WL.len rfl rfl GI ?_);(first|refine (?_:W _ _ _ _ _)|refine (?_:WL _ _ _ _ _ _)|skip);try dsimp only [St.put,Nat.reduceAdd]);exact hq.k)):p:=h ⟨k⟩
theorem amx {p q:Prop} (k:q) (h:aS q→p:=by (intro hq;(repeat (first|refine AZ ?_|refine WL.ar rfl rfl uS ?_);(first|refine (?_:W _ _ _ _ _)|refine (?_:WL _ _ _ _ _ _)|skip);try dsimp only [St.put,Nat.reduceAdd]);exact hq.k)):p:=h ⟨k⟩
theorem fG {p q:Prop} (k:q) (h:aS q→p:=by (intro hq;(repeat (first|refine yP ?_|refine lS ?_|refine WL.ixs rfl rfl vK ?_|refine WL.app rfl rfl rfl vK ?_);(first|refine (?_:W _ _ _ _ _)|refine (?_:WL _ _ _ _ _ _)|skip);try dsimp only [St.put,Nat.reduceAdd]);exact hq.k)):p:=h ⟨k⟩
theorem amy {p q:Prop} (k:q) (h:aS q→p:=by (intro hq;(repeat (first|refine yP ?_|refine lS ?_|refine ku ?_);(first|refine (?_:W _ _ _ _ _)|refine (?_:WL _ _ _ _ _ _)|skip);try dsimp only [St.put,Nat.reduceAdd]);exact hq.k)):p:=h ⟨k⟩
theorem dG {p q:Prop} (k:q) (h:aS q→p:=by (intro hq;(repeat (first|refine oD ?_|refine lS ?_|refine ku ?_);(first|refine (?_:W _ _ _ _ _)|refine (?_:WL _ _ _ _ _ _)|skip);try dsimp only [St.put,Nat.reduceAdd]);exact hq.k)):p:=h ⟨k⟩
theorem AY {p q:Prop} (k:q) (h:aS q→p:=by (intro hq;(repeat (first|refine Fv ?_|refine lS ?_|refine ku ?_);(first|refine (?_:W _ _ _ _ _)|refine (?_:WL _ _ _ _ _ _)|skip);try dsimp only [St.put,Nat.reduceAdd]);exact hq.k)):p:=h ⟨k⟩
theorem aZ {p q:Prop} (k:q) (h:aS q→p:=by (intro hq;(repeat (first|refine Fv ?_|refine Ux ?_);(first|refine (?_:W _ _ _ _ _)|refine (?_:WL _ _ _ _ _ _)|skip);try dsimp only [St.put,Nat.reduceAdd]);exact hq.k)):p:=h ⟨k⟩
theorem acY {p q:Prop} (k:q) (h:aS q→p:=by (intro hq;(repeat (first|refine Fq ?_|refine WL.e1 rfl ?_);(first|refine (?_:W _ _ _ _ _)|refine (?_:WL _ _ _ _ _ _)|skip);try dsimp only [St.put,Nat.reduceAdd]);exact hq.k)):p:=h ⟨k⟩
theorem uN {p q:Prop} (k:q) (h:aS q→p:=by (intro hq;(repeat (first|refine WL.vl rfl (WV.nch rfl rfl) ?_|refine ZM ?_|refine WL.len rfl rfl rfl ?_|refine sU ?_);(first|refine (?_:W _ _ _ _ _)|refine (?_:WL _ _ _ _ _ _)|skip);try dsimp only [St.put,Nat.reduceAdd]);exact hq.k)):p:=h ⟨k⟩
theorem acZ {p q:Prop} (k:q) (h:aS q→p:=by (intro hq;(repeat (first|refine Fq ?_|refine WL.bt rfl rfl rfl (by omega) ?_|refine WL.e1 rfl ?_|refine WM ?_|refine W.condT rfl ?_);(first|refine (?_:W _ _ _ _ _)|refine (?_:WL _ _ _ _ _ _)|skip);try dsimp only [St.put,Nat.reduceAdd]);exact hq.k)):p:=h ⟨k⟩
theorem jE {p q:Prop} (k:q) (h:aS q→p:=by (intro hq;(repeat (first|refine WL.vl rfl (WV.nch rfl rfl) ?_|refine GH ?_|refine Md ?_|refine WL.ar rfl rfl uS ?_|refine yO ?_);(first|refine (?_:W _ _ _ _ _)|refine (?_:WL _ _ _ _ _ _)|skip);try dsimp only [St.put,Nat.reduceAdd]);exact hq.k)):p:=h ⟨k⟩
theorem lG {p q:Prop} (k:q) (h:aS q→p:=by (intro hq;(repeat (first|refine Fq ?_|refine Md ?_|refine ku ?_);(first|refine (?_:W _ _ _ _ _)|refine (?_:WL _ _ _ _ _ _)|skip);try dsimp only [St.put,Nat.reduceAdd]);exact hq.k)):p:=h ⟨k⟩
theorem Fh {p q:Prop} (k:q) (h:aS q→p:=by (intro hq;(repeat (first|refine DK.vl rfl (WV.nch rfl rfl) ?_|refine DK.bf rfl rfl (by omega) ?_|refine DK.tt rfl FH ?_|refine DK.ff rfl FH ?_|refine DK.st rfl ?_|refine DK.ar rfl rfl uS ?_|refine DK.len rfl rfl rfl ?_|refine DK.nil ?_));exact hq.k)):p:=h ⟨k⟩
theorem aic {p q:Prop} (k:q) (h:aS q→p:=by (intro hq;(repeat (first|refine yQ ?_|refine WL.e1 rfl ?_|refine sU ?_);(first|refine (?_:W _ _ _ _ _)|refine (?_:WL _ _ _ _ _ _)|skip);try dsimp only [St.put,Nat.reduceAdd]);exact hq.k)):p:=h ⟨k⟩
theorem WE {p q:Prop} (k:q) (h:aS q→p:=by (intro hq;(repeat (first|refine yP ?_|refine WL.ar rfl rfl uS ?_|refine WL.ixs rfl rfl vK ?_);(first|refine (?_:W _ _ _ _ _)|refine (?_:WL _ _ _ _ _ _)|skip);try dsimp only [St.put,Nat.reduceAdd]);exact hq.k)):p:=h ⟨k⟩
theorem aie {p q:Prop} (k:q) (h:aS q→p:=by (intro hq;(repeat (first|refine yQ ?_|refine WL.e1 rfl ?_|refine WL.ar rfl rfl uS ?_|refine WL.ixs rfl rfl vK ?_);(first|refine (?_:W _ _ _ _ _)|refine (?_:WL _ _ _ _ _ _)|skip);try dsimp only [St.put,Nat.reduceAdd]);exact hq.k)):p:=h ⟨k⟩
theorem Ji {p q:Prop} (k:q) (h:aS q→p:=by (intro hq;(repeat (first|refine AZ ?_|refine lS ?_|refine WL.app rfl rfl rfl vK ?_);(first|refine (?_:W _ _ _ _ _)|refine (?_:WL _ _ _ _ _ _)|skip);try dsimp only [St.put,Nat.reduceAdd]);exact hq.k)):p:=h ⟨k⟩
theorem Qj {p q:Prop} (k:q) (h:aS q→p:=by (intro hq;(repeat (first|refine yQ ?_|refine WL.e1 rfl ?_|refine Ux ?_);(first|refine (?_:W _ _ _ _ _)|refine (?_:WL _ _ _ _ _ _)|skip);try dsimp only [St.put,Nat.reduceAdd]);exact hq.k)):p:=h ⟨k⟩
theorem WG {p q:Prop} (k:q) (h:aS q→p:=by(intro hq;(repeat(first|refine W.gob rfl ?_|refine WL.nil ?_|refine WL.e1 rfl ?_);(first|refine(?_:W _ _ _ _ _)|refine(?_:WL _ _ _ _ _ _)|skip);try dsimp only [St.put,Nat.reduceAdd]);exact hq.k)):p:=h ⟨k⟩
theorem Jj {p q:Prop} (k:q) (h:aS q→p:=by (intro hq;(repeat (first|refine yQ ?_|refine WL.e1 rfl ?_|refine Fz ?_|refine ku ?_);(first|refine (?_:W _ _ _ _ _)|refine (?_:WL _ _ _ _ _ _)|skip);try dsimp only [St.put,Nat.reduceAdd]);exact hq.k)):p:=h ⟨k⟩
theorem Qk {p q:Prop} (k:q) (h:aS q→p:=by (intro hq;(repeat (first|refine yQ ?_|refine WL.bt rfl rfl rfl (by omega) ?_|refine WL.e1 rfl ?_|refine lS ?_|refine ku ?_);(first|refine (?_:W _ _ _ _ _)|refine (?_:WL _ _ _ _ _ _)|skip);try dsimp only [St.put,Nat.reduceAdd]);exact hq.k)):p:=h ⟨k⟩
theorem ac0 {p q:Prop} (k:q) (h:aS q→p:=by (intro hq;(repeat (first|refine yP ?_|refine sU ?_);(first|refine (?_:W _ _ _ _ _)|refine (?_:WL _ _ _ _ _ _)|skip);try dsimp only [St.put,Nat.reduceAdd]);exact hq.k)):p:=h ⟨k⟩
theorem aif {p q:Prop} (k:q) (h:aS q→p:=by (intro hq;(repeat (first|refine WL.vl rfl (WV.nch rfl rfl) ?_|refine W.gob rfl ?_|refine WL.e1 rfl ?_);(first|refine (?_:W _ _ _ _ _)|refine (?_:WL _ _ _ _ _ _)|skip);try dsimp only [St.put,Nat.reduceAdd]);exact hq.k)):p:=h ⟨k⟩
theorem Ql {p q:Prop} (k:q) (h:aS q→p:=by (intro hq;(repeat (first|refine Fq ?_|refine WL.e1 rfl ?_|refine WL.ar rfl rfl uS ?_|refine ku ?_);(first|refine (?_:W _ _ _ _ _)|refine (?_:WL _ _ _ _ _ _)|skip);try dsimp only [St.put,Nat.reduceAdd]);exact hq.k)):p:=h ⟨k⟩
theorem ac1 {p q:Prop} (k:q) (h:aS q→p:=by (intro hq;(repeat (first|refine WL.vl rfl (WV.nch rfl rfl) ?_|refine oD ?_|refine Ux ?_);(first|refine (?_:W _ _ _ _ _)|refine (?_:WL _ _ _ _ _ _)|skip);try dsimp only [St.put,Nat.reduceAdd]);exact hq.k)):p:=h ⟨k⟩
theorem aii {p q:Prop} (k:q) (h:aS q→p:=by (intro hq;(repeat (first|refine DK.vl rfl (WV.nch rfl rfl) ?_|refine DK.bt rfl rfl (by omega) ?_|refine DK.bf rfl rfl (by omega) ?_|refine DK.tt rfl FH ?_|refine DK.ff rfl FH ?_|refine DK.st rfl ?_|refine DK.ar rfl rfl uS ?_|refine DK.len rfl rfl GI ?_|refine DK.idx rfl rfl (by omega) ZN ?_|refine DK.nil ?_));exact hq.k)):p:=h ⟨k⟩
theorem aij {p q:Prop} (k:q) (h:aS q→p:=by (intro hq;(repeat (first|refine DK.vl rfl (WV.nch rfl rfl) ?_|refine DK.bt rfl rfl (by omega) ?_|refine DK.bf rfl rfl (by omega) ?_|refine DK.tt rfl FH ?_|refine DK.ff rfl FH ?_|refine DK.st rfl ?_|refine DK.ar rfl rfl uS ?_|refine DK.len rfl rfl rfl ?_|refine DK.nil ?_));exact hq.k)):p:=h ⟨k⟩
theorem dR {p q:Prop} (k:q) (h:aS q→p:=by (intro hq;(repeat (first|refine WL.vl rfl (WV.nch rfl rfl) ?_|refine WL.vl rfl (WV.amc rfl rfl) ?_|refine ZM ?_|refine yO ?_);(first|refine (?_:W _ _ _ _ _)|refine (?_:WL _ _ _ _ _ _)|skip);try dsimp only [St.put,Nat.reduceAdd]);exact hq.k)):p:=h ⟨k⟩
theorem Fj {p q:Prop} (k:q) (h:aS q→p:=by (intro hq;(repeat (first|refine WL.vl rfl (WV.nch rfl rfl) ?_|refine GH ?_|refine WQ ?_|refine yO ?_);(first|refine (?_:W _ _ _ _ _)|refine (?_:WL _ _ _ _ _ _)|skip);try dsimp only [St.put,Nat.reduceAdd]);exact hq.k)):p:=h ⟨k⟩
theorem ac2 {p q:Prop} (k:q) (h:aS q→p:=by (intro hq;(repeat (first|refine WL.vl rfl (WV.nch rfl rfl) ?_|refine oD ?_|refine qU ?_|refine lS ?_|refine Jl ?_);(first|refine (?_:W _ _ _ _ _)|refine (?_:WL _ _ _ _ _ _)|skip);try dsimp only [St.put,Nat.reduceAdd]);exact hq.k)):p:=h ⟨k⟩
theorem Fp {p q:Prop} (k:q) (h:aS q→p:=by (intro hq;(repeat (first|refine WL.vl rfl (WV.nch rfl rfl) ?_|refine ZM ?_|refine WL.len rfl rfl rfl ?_|refine Jl ?_);(first|refine (?_:W _ _ _ _ _)|refine (?_:WL _ _ _ _ _ _)|skip);try dsimp only [St.put,Nat.reduceAdd]);exact hq.k)):p:=h ⟨k⟩
theorem uO {p q:Prop} (k:q) (h:aS q→p:=by (intro hq;(repeat (first|refine WL.vl rfl (WV.nch rfl rfl) ?_|refine oD ?_|refine lS ?_|refine sU ?_);(first|refine (?_:W _ _ _ _ _)|refine (?_:WL _ _ _ _ _ _)|skip);try dsimp only [St.put,Nat.reduceAdd]);exact hq.k)):p:=h ⟨k⟩
theorem qR {p q:Prop} (k:q) (h:aS q→p:=by (intro hq;(repeat (first|refine WL.vl rfl (WV.nch rfl rfl) ?_|refine oD ?_|refine WM ?_|refine sU ?_);(first|refine (?_:W _ _ _ _ _)|refine (?_:WL _ _ _ _ _ _)|skip);try dsimp only [St.put,Nat.reduceAdd]);exact hq.k)):p:=h ⟨k⟩
theorem lH {p q:Prop} (k:q) (h:aS q→p:=by (intro hq;(repeat (first|refine GH ?_|refine Md ?_|refine lS ?_|refine sU ?_);(first|refine (?_:W _ _ _ _ _)|refine (?_:WL _ _ _ _ _ _)|skip);try dsimp only [St.put,Nat.reduceAdd]);exact hq.k)):p:=h ⟨k⟩
theorem jv {p q:Prop} (k:q) (h:aS q→p:=by (intro hq;(repeat (first|refine WL.vl rfl (WV.nch rfl rfl) ?_|refine WL.vl rfl (WV.amc rfl rfl) ?_|refine yQ ?_|refine Md ?_|refine qU ?_|refine ku ?_);(first|refine (?_:W _ _ _ _ _)|refine (?_:WL _ _ _ _ _ _)|skip);try dsimp only [St.put,Nat.reduceAdd]);exact hq.k)):p:=h ⟨k⟩
theorem aik {p q:Prop} (k:q) (h:aS q→p:=by (intro hq;(repeat (first|refine Fq ?_|refine WL.e1 rfl ?_|refine W.condT rfl ?_);(first|refine (?_:W _ _ _ _ _)|refine (?_:WL _ _ _ _ _ _)|skip);try dsimp only [St.put,Nat.reduceAdd]);exact hq.k)):p:=h ⟨k⟩
theorem WH {p q:Prop} (k:q) (h:aS q→p:=by (intro hq;(repeat (first|refine Fq ?_|refine WL.e1 rfl ?_|refine ku ?_);(first|refine (?_:W _ _ _ _ _)|refine (?_:WL _ _ _ _ _ _)|skip);try dsimp only [St.put,Nat.reduceAdd]);exact hq.k)):p:=h ⟨k⟩
theorem lI {p q:Prop} (k:q) (h:aS q→p:=by (intro hq;(repeat (first|refine Fq ?_|refine WL.bf rfl rfl rfl (by omega) ?_|refine WL.e1 rfl ?_|refine WM ?_|refine ku ?_);(first|refine (?_:W _ _ _ _ _)|refine (?_:WL _ _ _ _ _ _)|skip);try dsimp only [St.put,Nat.reduceAdd]);exact hq.k)):p:=h ⟨k⟩
theorem eH {p q:Prop} (k:q) (h:aS q→p:=by (intro hq;(repeat (first|refine WL.vl rfl (WV.nch rfl rfl) ?_|refine Fv ?_|refine WM ?_|refine sU ?_);(first|refine (?_:W _ _ _ _ _)|refine (?_:WL _ _ _ _ _ _)|skip);try dsimp only [St.put,Nat.reduceAdd]);exact hq.k)):p:=h ⟨k⟩
theorem ail {p q:Prop} (k:q) (h:aS q→p:=by (intro hq;(repeat (first|refine yQ ?_|refine WL.bf rfl rfl rfl (by omega) ?_|refine WL.e1 rfl ?_|refine ku ?_);(first|refine (?_:W _ _ _ _ _)|refine (?_:WL _ _ _ _ _ _)|skip);try dsimp only [St.put,Nat.reduceAdd]);exact hq.k)):p:=h ⟨k⟩
theorem amC {p q:Prop} (k:q) (h:aS q→p:=by (intro hq;(repeat (first|refine W.go rfl ?_|refine WL.nil ?_|refine WL.gyes rfl rfl rfl rfl ?_|refine lS ?_|refine W.condF rfl ?_);(first|refine (?_:W _ _ _ _ _)|refine (?_:WL _ _ _ _ _ _)|skip);try dsimp only [St.put,Nat.reduceAdd]);exact hq.k)):p:=h ⟨k⟩
theorem ain {p q:Prop} (k:q) (h:aS q→p:=by (intro hq;(repeat (first|refine yQ ?_|refine WL.bf rfl rfl rfl (by omega) ?_|refine WQ ?_|refine WL.gyes rfl rfl rfl rfl ?_|refine lS ?_|refine W.condF rfl ?_);(first|refine (?_:W _ _ _ _ _)|refine (?_:WL _ _ _ _ _ _)|skip);try dsimp only [St.put,Nat.reduceAdd]);exact hq.k)):p:=h ⟨k⟩
theorem amD {p q:Prop} (k:q) (h:aS q→p:=by (intro hq;(repeat (first|refine oD ?_|refine ku ?_);(first|refine (?_:W _ _ _ _ _)|refine (?_:WL _ _ _ _ _ _)|skip);try dsimp only [St.put,Nat.reduceAdd]);exact hq.k)):p:=h ⟨k⟩
theorem wu {p q:Prop} (k:q) (h:aS q→p:=by (intro hq;(repeat (first|refine Fv ?_|refine lS ?_|refine sU ?_);(first|refine (?_:W _ _ _ _ _)|refine (?_:WL _ _ _ _ _ _)|skip);try dsimp only [St.put,Nat.reduceAdd]);exact hq.k)):p:=h ⟨k⟩
theorem aio {p q:Prop} (k:q) (h:aS q→p:=by (intro hq;(repeat (first|refine DK.bt rfl rfl (by omega) ?_|refine DK.bf rfl rfl (by omega) ?_|refine DK.tt rfl FH ?_|refine DK.ff rfl FH ?_|refine DK.st rfl ?_|refine DK.len rfl rfl GI ?_|refine DK.idx rfl rfl (by omega) ZN ?_|refine DK.nil ?_));exact hq.k)):p:=h ⟨k⟩
theorem ac3 {p q:Prop} (k:q) (h:aS q→p:=by(intro hq;(repeat(first|refine W.go rfl ?_|refine WL.nil ?_|refine WL.ev rfl ?_);(first|refine(?_:W _ _ _ _ _)|refine(?_:WL _ _ _ _ _ _)|skip);try dsimp only [St.put,Nat.reduceAdd]);exact hq.k)):p:=h ⟨k⟩
theorem aip {p q:Prop} (k:q) (h:aS q→p:=by(intro hq;(repeat(first|refine W.go rfl ?_|refine WL.nil ?_);(first|refine(?_:W _ _ _ _ _)|refine(?_:WL _ _ _ _ _ _)|skip);try dsimp only [St.put,Nat.reduceAdd]);exact hq.k)):p:=h ⟨k⟩
theorem amE {p q:Prop} (k:q) (h:aS q→p:=by (intro hq;(repeat (first|refine W.go rfl ?_|refine WL.nil ?_|refine qU ?_|refine WL.ar rfl rfl uS ?_|refine WL.neg rfl rfl uS ?_|refine ku ?_);(first|refine (?_:W _ _ _ _ _)|refine (?_:WL _ _ _ _ _ _)|skip);try dsimp only [St.put,Nat.reduceAdd]);exact hq.k)):p:=h ⟨k⟩
theorem WI {p q:Prop} (k:q) (h:aS q→p:=by (intro hq;(repeat (first|refine ZM ?_|refine WL.neg rfl rfl uS ?_|refine ku ?_);(first|refine (?_:W _ _ _ _ _)|refine (?_:WL _ _ _ _ _ _)|skip);try dsimp only [St.put,Nat.reduceAdd]);exact hq.k)):p:=h ⟨k⟩
theorem ac4 {p q:Prop} (k:q) (h:aS q→p:=by (intro hq;(repeat (first|refine W.go rfl ?_|refine WL.nil ?_|refine lS ?_|refine yO ?_);(first|refine (?_:W _ _ _ _ _)|refine (?_:WL _ _ _ _ _ _)|skip);try dsimp only [St.put,Nat.reduceAdd]);exact hq.k)):p:=h ⟨k⟩
theorem iR {p q:Prop} (k:q) (h:aS q→p:=by (intro hq;(repeat (first|refine GH ?_|refine Md ?_|refine lS ?_|refine yO ?_);(first|refine (?_:W _ _ _ _ _)|refine (?_:WL _ _ _ _ _ _)|skip);try dsimp only [St.put,Nat.reduceAdd]);exact hq.k)):p:=h ⟨k⟩
theorem ac5 {p q:Prop} (k:q) (h:aS q→p:=by(intro hq;(repeat(first|refine W.go rfl ?_|refine WL.nil ?_|refine WL.ev rfl ?_|refine WL.gyes rfl rfl rfl rfl ?_|refine WL.opno rfl rfl rfl rfl rfl rfl rfl ?_|refine W.condT rfl ?_|refine W.condF rfl ?_);(first|refine(?_:W _ _ _ _ _)|refine(?_:WL _ _ _ _ _ _)|skip);try dsimp only [St.put,Nat.reduceAdd]);exact hq.k)):p:=h ⟨k⟩
theorem amF {p q:Prop} (k:q) (h:aS q→p:=by (intro hq;(repeat (first|refine Fv ?_|refine ku ?_);(first|refine (?_:W _ _ _ _ _)|refine (?_:WL _ _ _ _ _ _)|skip);try dsimp only [St.put,Nat.reduceAdd]);exact hq.k)):p:=h ⟨k⟩
theorem Qm {p q:Prop} (k:q) (h:aS q→p:=by (intro hq;(repeat (first|refine yP ?_|refine qU ?_|refine WL.ar rfl rfl uS ?_|refine ku ?_);(first|refine (?_:W _ _ _ _ _)|refine (?_:WL _ _ _ _ _ _)|skip);try dsimp only [St.put,Nat.reduceAdd]);exact hq.k)):p:=h ⟨k⟩
theorem uP {p q:Prop} (k:q) (h:aS q→p:=by (intro hq;(repeat (first|refine ZM ?_|refine ku ?_);(first|refine (?_:W _ _ _ _ _)|refine (?_:WL _ _ _ _ _ _)|skip);try dsimp only [St.put,Nat.reduceAdd]);exact hq.k)):p:=h ⟨k⟩
theorem aiq {p q:Prop} (k:q) (h:aS q→p:=by (intro hq;(repeat (first|refine yP ?_|refine qU ?_|refine lS ?_|refine ku ?_);(first|refine (?_:W _ _ _ _ _)|refine (?_:WL _ _ _ _ _ _)|skip);try dsimp only [St.put,Nat.reduceAdd]);exact hq.k)):p:=h ⟨k⟩
theorem jF {p q:Prop} (k:q) (h:aS q→p:=by (intro hq;(repeat (first|refine oD ?_|refine qU ?_|refine lS ?_|refine ku ?_);(first|refine (?_:W _ _ _ _ _)|refine (?_:WL _ _ _ _ _ _)|skip);try dsimp only [St.put,Nat.reduceAdd]);exact hq.k)):p:=h ⟨k⟩
theorem Qn {p q:Prop} (k:q) (h:aS q→p:=by (intro hq;(repeat (first|refine AZ ?_|refine qU ?_|refine WL.cat rfl rfl vK ?_);(first|refine (?_:W _ _ _ _ _)|refine (?_:WL _ _ _ _ _ _)|skip);try dsimp only [St.put,Nat.reduceAdd]);exact hq.k)):p:=h ⟨k⟩
theorem amG {p q:Prop} (k:q) (h:aS q→p:=by (intro hq;(repeat (first|refine AZ ?_|refine lS ?_);(first|refine (?_:W _ _ _ _ _)|refine (?_:WL _ _ _ _ _ _)|skip);try dsimp only [St.put,Nat.reduceAdd]);exact hq.k)):p:=h ⟨k⟩
theorem ac6 {p q:Prop} (k:q) (h:aS q→p:=by (intro hq;(repeat (first|refine yP ?_|refine qU ?_|refine lS ?_|refine W.condF rfl ?_);(first|refine (?_:W _ _ _ _ _)|refine (?_:WL _ _ _ _ _ _)|skip);try dsimp only [St.put,Nat.reduceAdd]);exact hq.k)):p:=h ⟨k⟩
theorem air {p q:Prop} (k:q) (h:aS q→p:=by (intro hq;(repeat (first|refine oD ?_|refine qU ?_|refine lS ?_|refine W.condF rfl ?_);(first|refine (?_:W _ _ _ _ _)|refine (?_:WL _ _ _ _ _ _)|skip);try dsimp only [St.put,Nat.reduceAdd]);exact hq.k)):p:=h ⟨k⟩
theorem wz {p q:Prop} (k:q) (h:aS q→p:=by (intro hq;(repeat (first|refine AZ ?_|refine Fz ?_|refine WL.app rfl rfl rfl vK ?_);(first|refine (?_:W _ _ _ _ _)|refine (?_:WL _ _ _ _ _ _)|skip);try dsimp only [St.put,Nat.reduceAdd]);exact hq.k)):p:=h ⟨k⟩
theorem ais {p q:Prop} (k:q) (h:aS q→p:=by (intro hq;(repeat (first|refine yP ?_|refine lS ?_|refine sU ?_);(first|refine (?_:W _ _ _ _ _)|refine (?_:WL _ _ _ _ _ _)|skip);try dsimp only [St.put,Nat.reduceAdd]);exact hq.k)):p:=h ⟨k⟩
theorem ait {p q:Prop} (k:q) (h:aS q→p:=by (intro hq;(repeat (first|refine oD ?_|refine lS ?_|refine sU ?_);(first|refine (?_:W _ _ _ _ _)|refine (?_:WL _ _ _ _ _ _)|skip);try dsimp only [St.put,Nat.reduceAdd]);exact hq.k)):p:=h ⟨k⟩
theorem Jk {p q:Prop} (k:q) (h:aS q→p:=by (intro hq;(repeat (first|refine GH ?_|refine WQ ?_|refine WL.gyes rfl rfl rfl rfl ?_|refine Fz ?_|refine ku ?_);(first|refine (?_:W _ _ _ _ _)|refine (?_:WL _ _ _ _ _ _)|skip);try dsimp only [St.put,Nat.reduceAdd]);exact hq.k)):p:=h ⟨k⟩
theorem amH {p q:Prop} (k:q) (h:aS q→p:=by (intro hq;(repeat (first|refine W.go rfl ?_|refine WL.nil ?_|refine WL.len rfl rfl GI ?_|refine W.condF rfl ?_);(first|refine (?_:W _ _ _ _ _)|refine (?_:WL _ _ _ _ _ _)|skip);try dsimp only [St.put,Nat.reduceAdd]);exact hq.k)):p:=h ⟨k⟩
theorem ac7 {p q:Prop} (k:q) (h:aS q→p:=by (intro hq;(repeat (first|refine yQ ?_|refine WL.bf rfl rfl rfl (by omega) ?_|refine WQ ?_|refine WL.len rfl rfl GI ?_|refine W.condF rfl ?_);(first|refine (?_:W _ _ _ _ _)|refine (?_:WL _ _ _ _ _ _)|skip);try dsimp only [St.put,Nat.reduceAdd]);exact hq.k)):p:=h ⟨k⟩
theorem amI {p q:Prop} (k:q) (h:aS q→p:=by (intro hq;(repeat (first|refine DSK.st rfl rfl ?_|refine DSK.idx rfl rfl (by omega) ZN ?_|refine DSK.al rfl rfl rfl rfl ⟨rfl,rfl,trivial⟩ ?_|refine DSK.sto rfl rfl rfl rfl rfl rfl rfl rfl rfl rfl rfl rfl rfl rfl ⟨rfl,rfl,trivial⟩ ?_|refine DSK.nil ?_));exact hq.k)):p:=h ⟨k⟩
theorem WJ {p q:Prop} (k:q) (h:aS q→p:=by (intro hq;(repeat (first|refine W.go rfl ?_|refine WL.nil ?_|refine Ux ?_);(first|refine (?_:W _ _ _ _ _)|refine (?_:WL _ _ _ _ _ _)|skip);try dsimp only [St.put,Nat.reduceAdd]);exact hq.k)):p:=h ⟨k⟩
theorem qg {p q:Prop} (k:q) (h:aS q→p:=by (intro hq;(repeat (first|refine yQ ?_|refine WL.bf rfl rfl rfl (by omega) ?_|refine Md ?_|refine Ux ?_);(first|refine (?_:W _ _ _ _ _)|refine (?_:WL _ _ _ _ _ _)|skip);try dsimp only [St.put,Nat.reduceAdd]);exact hq.k)):p:=h ⟨k⟩
theorem Uu {p q:Prop} (k:q) (h:aS q→p:=by (intro hq;(repeat (first|refine yP ?_|refine aiu ?_);(first|refine (?_:W _ _ _ _ _)|refine (?_:WL _ _ _ _ _ _)|skip);try dsimp only [St.put,Nat.reduceAdd]);exact hq.k)):p:=h ⟨k⟩
theorem acX {p q:Prop} (k:q) (h:aS q→p:=by (intro hq;(repeat (first|refine yQ ?_|refine WL.bt rfl rfl rfl (by omega) ?_|refine WL.e1 rfl ?_|refine aiu ?_);(first|refine (?_:W _ _ _ _ _)|refine (?_:WL _ _ _ _ _ _)|skip);try dsimp only [St.put,Nat.reduceAdd]);exact hq.k)):p:=h ⟨k⟩
def bs(l:List UInt8):ByteArray:=⟨l.toArray⟩
theorem mk_bs(xs:Array UInt8):(ByteArray.mk xs)=bs xs.toList:=rfl
theorem bs_of(s:ByteArray):∃ l,s=bs l:=⟨s.data.toList,rfl⟩
theorem bs_size(l:List UInt8):(bs l).size=l.length:=by simp [bs,ByteArray.size]
theorem bs_data(l:List UInt8):(bs l).data.toList=l:=by simp [bs]
theorem bs_append (a b:List UInt8):bs a++bs b=bs (a++b):=by
 apply ByteArray.ext;simp [bs,ByteArray.data_append]
theorem bs_extract (l:List UInt8)(a b:Nat):(bs l).extract a b=bs ((l.drop a).take (b-a)):=by
 apply ByteArray.ext;simp [bs,ByteArray.data_extract]
theorem bs_toList(l:List UInt8):(bs l).toList=l:=by
 simp [bs]
def cut (l:List UInt8)(i j:Int):List UInt8:=(l.drop i.toNat).take (j.toNat-i.toNat)
theorem cut_length(l:List UInt8)(i j:Int):(cut l i j).length≤l.length:=by simp only [cut,jR,qK];omega
section
variable {P:Program} (w:World)
theorem run_cut (t:TypeId) (l:List UInt8) (k k':IntKind) (i j:Int) (h:P.underlying t=some .string) (h0:0≤i) (h1:i≤j) (h2:j≤(l.length:Int)) :
  (Instr.slice t (.string (bs l)) (some (.int k i)) (some (.int k' j)) none).run P w=.ok (.string (bs (cut l i j))) w:=by
 rw [run_slice_string w t (bs l) k k' i j h h0 h1 (by rw [bs_size];exact h2),bs_extract];rfl
theorem run_cut_to (t:TypeId)(l:List UInt8)(k':IntKind)(j:Int)(h:P.underlying t=some .string)(h0:0≤j)(h2:j≤(l.length:Int)) :
  (Instr.slice t (.string (bs l)) none (some (.int k' j)) none).run P w=.ok (.string (bs (cut l 0 j))) w:=by
 have hj:0≤j∧j≤((bs l).size:Int):=⟨h0,by rw [bs_size];exact h2⟩
 rw [run_slice_string_to_if w t (bs l) k' j h,if_pos hj,bs_extract];rfl
theorem run_cut_from (t:TypeId) (l:List UInt8) (k:IntKind) (i:Int) (h:P.underlying t=some .string) (h0:0≤i) (h2:i≤(l.length:Int)) :
  (Instr.slice t (.string (bs l)) (some (.int k i)) none none).run P w=.ok (.string (bs (l.drop i.toNat))) w:=by
 have hj:0≤i∧i≤((bs l).size:Int):=⟨h0,by rw [bs_size];exact h2⟩
 rw [run_slice_string_from_if w t (bs l) k i h,if_pos hj,bs_extract,bs_size]
 rw [lC (by simp)]
theorem run_add_bs (a b:List UInt8) (h:a.length+b.length≤9223372036854775807):(Op.stringOp .add (bs a) (bs b)).run P w=.ok (.string (bs (a++b))) w:=by
 rw [run_string_add_sum w (bs a) (bs b) (by rw [bs_size,bs_size];exact h),bs_append]
end
theorem bel_drewN {B:Nat} {a w:World} (h:Below B a w) (n:Nat):Below B a (w.drewN n):=h.trans ⟨rfl,rfl,rfl,Nat.le_refl _,fun _ _=>rfl⟩
theorem bel_step {a w w':World} (h:Below a.heap.size a w)(hb:Below w.heap.size w w'):Below a.heap.size a w':=h.trans (hb.mono h.size)
theorem bel_alloc {a w:World} (h:Below a.heap.size a w)(o:Obj):Below a.heap.size a (w.alloc o):=h.alloc h.size o
theorem jD {n:Nat} {w w':World} (h:Below n w w':=by repeat (first|exact Below.refl _ _|assumption|refine bel_drewN ?_ _|refine Below.drew ?_|refine bel_alloc ?_ _|refine Below.setCell ?_ vK _|refine bel_step ?_ (by assumption))):Below n w w':=h
theorem bcell {W w1:World} (hb:Below W.heap.size W w1):(∀ b o,b<W.heap.size→w1.cell? ⟨b,o,none⟩=W.cell? ⟨b,o,none⟩)∧(∀ b o,b<W.heap.size→w1.frozen? ⟨b,o,none⟩=W.frozen? ⟨b,o,none⟩) :=
 ⟨fun b o h=>hb.cell (p:=⟨b,o,none⟩) h,fun b o h=>hb.frozen (p:=⟨b,o,none⟩) h⟩
theorem run_partAt_zero {P:Program} (w:World) (b:Nat) (e:TypeId) (cs:Array Value) (hb:w.heap[b]?=some (.cells cs e (0,0))) (h0:P.cellsOf e=0):(partAt ⟨b,0,none⟩ 0 0).run P w=.ok ⟨b,0,none⟩ w:=by
 have hs:w.shape? b=some (e,cs.size):=by simp [World.shape?,hb]
 simp [partAt,byteOf,noView,viewAt,hs,h0]
theorem heap_alloc2 (w:World)(o o':Obj):((w.alloc o).alloc o').heap[w.heap.size]?=some o:=by
 rw [Below.heap_alloc _ _ _ (by simp)];exact heap_alloc_new w o
def Blk (w:World)(g:Nat)(t:TypeId)(cs:Array Value):Prop:=w.heap[g]?=some (.cells cs t (0,0))
section
variable {w w':World} {g:Nat} {t:TypeId} {cs:Array Value}
theorem Blk.lt(h:Blk w g t cs):g<w.heap.size:=by
 rcases qJ g w.heap.size with hlt|hge
 ·exact hlt
 ·unfold Blk at h;rw [Uf hge]at h;cases h
theorem Blk.cell (h:Blk w g t cs) (i:Nat):w.cell? ⟨g,i,none⟩=cs[i]?:=cell_of_row w g i cs t (0,0) h
theorem Blk.frozen(h:Blk w g t cs) (i:Nat):w.frozen? ⟨g,i,none⟩=false:=by
 unfold Blk at h
 simp [World.frozen?,h]
theorem Blk.new (w:World)(t:TypeId)(cs:Array Value):Blk (w.alloc (.cells cs t)) w.heap.size t cs:=heap_alloc_new w _
theorem Blk.drew(h:Blk w g t cs):Blk w.drew g t cs:=h
theorem Blk.alloc (h:Blk w g t cs)(o:Obj):Blk (w.alloc o) g t cs:=(Below.heap_alloc w o g h.lt).trans h
theorem Blk.after(h:Blk w g t cs)(hb:Below w.heap.size w w'):Blk w' g t cs:=(hb.block g h.lt).trans h
end
def Ret(v:Value)(W:World)(e:Ending)(w':World):Prop:=e=.returned v∧Below W.heap.size W w'
theorem Ret.mk' {v v':Value} {W w':World} (h:v'=v)(hb:Below W.heap.size W w'):Ret v W (.returned v') w':=⟨by rw [h],hb⟩
theorem own_built (w:World) (e:TypeId) (size n:Nat) (cs:Array Value) (hn:n≤maxLen) (hs:cs.size=n*size) :
  (w.alloc (.cells cs e)).ownsRow w.heap.size e size (.slice (some ⟨w.heap.size,0,none⟩) n n) n cs.toList :=
 ⟨by simpa using hs,.inr ⟨w.heap.size,n,cs,rfl,Nat.le_refl _,heap_alloc_new w _,Nat.le_refl _,hn,hs,by simp_all[lC]⟩⟩
theorem add_zero_addr(g j:Nat):(⟨g,0,none⟩:Addr).add j =⟨g,j,none⟩:=by
 simp_all[Addr.add]
theorem own_weaken {w:World} {base B:Nat} {e:TypeId} {size n:Nat} {v:Value} {xs:List Value} (h:w.ownsRow base e size v n xs) (hB:B≤base):w.ownsRow B e size v n xs:=by
 rcases h with⟨h1,h2|⟨g,cap,cur,hv,hbg,h3⟩⟩
 ·exact ⟨h1,.inl h2⟩
 ·exact ⟨h1,.inr ⟨g,cap,cur,hv,by omega,h3⟩⟩
theorem block_of_add(a:Addr)(n:Nat):(a.add n).block=a.block:=by unfold Addr.add;split<;>rfl
theorem add_of_add (a:Addr)(i j:Nat):(a.add i).add j=a.add (i+j):=by
 unfold Addr.add
 by_cases hi:i=0<;>by_cases hj:j=0<;>simp [hi,hj,ET]
theorem add_field (ad:Addr)(i j:Nat)(h:0<j):ad.add (i+j) =⟨(ad.add i).block,(ad.add i).off+j,none⟩:=by
 rw [← add_of_add]
 generalize ad.add i=b
 unfold Addr.add
 rw [if_neg (by omega)]
def Rd (w:World)(B size:Nat)(A:Option Addr)(l:List (List Value)):Prop :=
 0<l.length→∃ ad,A=some ad∧ad.block<B∧∀ k r,l[k]?=some r→∀ j u,r[j]?=some u→w.cell? (ad.add (k*size+j))=some u
section
variable {w w':World} {B B' size:Nat} {A:Option Addr} {l:List (List Value)}
theorem Rd.none_:Rd w B size A []:=fun h=>absurd h (by simp)
theorem Rd.at_ {k:Nat} (h:Rd w B size A l)(hk:k<l.length):∃ ad,A=some ad∧ad.block<B∧∀ j u,(l[k])[j]?=some u→w.cell? (ad.add (k*size+j))=some u:=by
 obtain⟨ad,e,hb,hc⟩:=h aj
 exact⟨ad,e,hb,fun j u hu=>hc k _ (aB hk) j u hu⟩
theorem Rd.keep (h:Rd w B size A l)(hk:∀ p:Addr,p.block<B→w'.cell? p=w.cell? p):Rd w' B size A l:=fun hn=>by
 obtain⟨ad,e,hb,hc⟩:=h hn
 exact⟨ad,e,hb,fun k r hr j u hu=>(hk _ (by rw [block_of_add];exact hb)).trans (hc k r hr j u hu)⟩
theorem Rd.more(h:Rd w B size A l)(hB:B≤B'):Rd w B' size A l:=fun hn=>by
 obtain⟨ad,e,hb,hc⟩:=h hn
 exact⟨ad,e,by omega,hc⟩
theorem Rd.alloc (h:Rd w B size A l)(hB:B≤w.heap.size)(o:Obj):Rd (w.alloc o) B size A l:=h.keep fun p hp=>World.cell?_alloc_lt w o p (by omega)
theorem Rd.setCell (h:Rd w B size A l) {p:Addr} (hB:B≤p.block)(u:Value):Rd (w.setCell p u) B size A l :=
 h.keep fun q hq=>World.cell?_setCell_other w p q u (fun e=>by subst e;omega)
theorem Rd.grown (h:Rd w B size A l) {row:Option Nat} (hg:w.grownBy w' row) (hB:B≤w.heap.size) (hr:∀ g,row=some g→B≤g):Rd w' B size A l :=
 h.keep fun p hp=>World.cell?_of_block (hg.block p.block aj (fun e=>by have:=hr _ e.symm;omega))
end
theorem flatten_at {size:Nat}:∀ {l:List (List Value)},(∀ r∈l,r.length=size)→∀ k r,l[k]?=some r→∀ j u,r[j]?=some u→l.flatten[k*size+j]?=some u:=by
 intro l
 induction l with
 | nil=>simp
 | cons x t ih =>
  intro hl k r hr j u hu
  have hx:x.length=size:=hl x (by simp)
  cases k<;>grind
theorem flatten_len {size:Nat}:∀ {l:List (List Value)},(∀ r∈l,r.length=size)→l.flatten.length=l.length*size:=by
 intro l
 induction l<;>grind
theorem flatten_mem {size:Nat}:∀ {l:List (List Value)},(∀ r∈l,r.length=size)→∀ i u,l.flatten[i]?=some u→∃ k r j,l[k]?=some r∧r[j]?=some u∧i=k*size+j:=by
 intro l
 induction l with
 | nil=>simp
 | cons x t ih =>
  intro hl i u h
  have hx:x.length=size:=hl x (by simp)
  rw [AA] at h
  by_cases e:i<x.length
  ·rw [sS e] at h
   exact⟨0,x,i,by simp,h,by simp⟩
  ·rw [qL (by omega)] at h
   obtain⟨k,r,j,a,b,c⟩:=ih (fun r h=>hl r Ba) _ _ h
   exact⟨k+1,r,j,by simpa using a,b,by rw [I4];omega⟩
section
variable {P:Program} {w w':World} {B B' size:Nat} {A:Option Addr} {l:List (List Value)}
theorem rd_of_own {base:Nat} {e:TypeId} {v:Value} {n:Nat} {xs:List Value} (h:w.ownsRow base e size v n xs) (hl:∀ r∈l,r.length=size) (hxs:xs=l.flatten) (hn:n=l.length) :
  ∃ A c,v=.slice A n c∧Rd w w.heap.size size A l∧(∀ ad,A=some ad→v.ownBlock=some ad.block∧base≤ad.block)∧n≤c:=by
 rcases h.2 with⟨rfl,h0⟩|⟨g,cap,cur,rfl,hb,hh,hnc,hcm,hcs,ht⟩
 ·grind[Rd.none_]
 ·refine ⟨some ⟨g,0,none⟩,cap,rfl,fun hpos=>⟨⟨g,0,none⟩,rfl,?_,fun k r hr j u hu=>?_⟩,(fun ad h=>by injection h with h;subst h;exact ⟨rfl,hb⟩),hnc⟩
  ·grind
  ·have h1:=flatten_at hl k r hr j u hu
   grind[add_zero_addr,cell_of_row]
theorem run_append_rd (base:Nat) (t ty e:TypeId) (i:TypeInfo) (z:Value) (size bytes:Nat) (ht:P.underlying t=some (.slice e)) (hi:P.info? e=some i) (hz:i.zero=some z)
  (hsize:i.size=size) (hby:i.bytes=bytes) (hzs:z.cells.size=size) (hsz:0<size)
  (v:Value) (n:Nat) (xs:List Value) (hown:w.ownsRow base e size v n xs)
  (c:Nat) (hr:Rd w B size A l) (hl:∀ r∈l,r.length=size) (h1:∀ r∈l,∀ u∈r,u.oneCell'=true)
  (h63:n+l.length≤maxLen) (hbytes:(n+l.length)*bytes≤140737488355328) (hbase:base≤w.heap.size) :
  ∃ v' w',(Builtin.append_ #[t,t] ty #[v,.slice A l.length c]).run P w=.ok v' w'∧w'.ownsRow base e size v' (n+l.length) (xs++l.flatten)∧w.grownBy w' v.ownBlock ∧
   (v'.ownBlock=v.ownBlock∨v'.ownBlock=some w.heap.size):=by
 rcases A with _|ad
 ·have hm:l=[]:=by
   rcases Nat.eq_zero_or_pos l.length with h0|h0
   ·exact kU h0
   ·obtain ⟨ad,h,_⟩:=hr h0
    cases h
  subst hm
  refine ⟨v,w,?_,by simpa using hown,World.grownBy.refl w _,.inl rfl⟩
  rcases hown.2 with⟨rfl,rfl⟩|⟨g,cap,cur,rfl,_,_,hnc,_⟩
  ·simp [Builtin.append_,run_underlying ht,sizeOf,typeInfo,hi,Builtin.lenOf,Builtin.firstCells]
  ·simp [Builtin.append_,run_underlying ht,sizeOf,typeInfo,hi,Builtin.lenOf,Builtin.firstCells,hnc,storeCells]
 ·have hcells:∀ j u,l.flatten[j]?=some u→w.cell? (ad.add j)=some u:=by
   intro j u hu
   obtain ⟨k,r,q,hk,hq,rfl⟩:=flatten_mem hl j u hu
   have hpos:0<l.length:=by have:=(List.getElem?_eq_some_iff.1 hk).1;omega
   obtain ⟨ad',h,_,hc⟩:=hr hpos
   injection h with h
   subst h
   exact hc k r hk q u hq
  obtain ⟨v',w',hrun,h2,h3,_,h5⟩:=run_append_own_at (P:=P) w base t ty e i z size bytes ht hi hz hsize hby hzs hsz v n xs hown ad l.length c l.flatten (flatten_len hl) hcells
   (fun u hu=>by obtain ⟨r,hr1,hr2⟩:=List.mem_flatten.1 hu;exact h1 r hr1 u hr2) h63 hbytes hbase
  exact ⟨v',w',hrun,h2,h3,h5⟩
theorem wp_append_new {o:Oper} {a:Act} {K:Act→World→Prop} {Q:Exit→Act→World→Prop} (s x:Operand) (t:TypeId)
  (ho:o.op=.call { callee:=.builtin .append,args:=#[s,x],argTypes:=#[t,t] })
  (e:TypeId) (i:TypeInfo) (z:Value) (size bytes:Nat) (ht:P.underlying t=some (.slice e)) (hi:P.info? e=some i) (hz:i.zero=some z)
  (hsize:i.size=size) (hby:i.bytes=bytes) (hzs:z.cells.size=size) (hsz:0<size)
  (g:Nat) (hs:a.eval s=.slice (some ⟨g,0,none⟩) 0 0) (hown:Blk w g e #[])
  (B:Nat) (A:Option Addr) (l:List (List Value)) (m c:Nat) (hx:a.eval x=.slice A m c) (hm:m=l.length) (hr:Rd w B size A l) (hl:∀ r∈l,r.length=size) (h1:∀ r∈l,∀ u∈r,u.oneCell'=true)
  (h63:l.length≤maxLen) (hbytes:l.length*bytes≤140737488355328)
  (h:∀ A' c' w',Rd w' w'.heap.size size A' l→w.grownBy w' (some g)→((∀ ad,A'=some ad→(ad.block=g∨ad.block=w.heap.size)∧ad.block<w'.heap.size)∧m≤c')→K (a.put o.dst (.slice A' m c')) w'):o.wp P a w K Q:=by
 subst hm
 have hO:w.ownsRow g e size (.slice (some ⟨g,0,none⟩) 0 0) 0 []:=⟨by simp,.inr ⟨g,0,#[],rfl,Nat.le_refl _,hown,Nat.le_refl _,by simp,by simp,by simp⟩⟩
 obtain ⟨v',w',hrun,h2,h3,h4⟩:=run_append_rd (P:=P) (A:=A) (l:=l) g t o.type e i z size bytes ht hi hz hsize hby hzs hsz _ 0 [] hO c hr hl h1 (by omega) (by simpa using hbytes) (Nat.le_of_lt hown.lt)
 obtain ⟨A',c',hv,hrd,hat,hcap⟩:=rd_of_own h2 hl (by simp) (by omega)
 rw [mJ] at hv
 subst hv
 refine fU ?_
 simp only [ho,resolve,invoke,builtin,Sem.run_bind,Sem.run_pure,Result.andThen_ok,List.map_toArray,qM,I5,hs,hx,hrun]
 refine h A' c' w' hrd h3 ⟨fun ad had=>?_,by omega⟩
 have:=(hat ad had).1
 have hlt:ad.block<w'.heap.size:=by
  rcases h2.2 with⟨h,_⟩|⟨g',cap,cur,h,_,hh,_⟩
  all_goals grind
 simp_all[Value.ownBlock]
theorem step_append_new {ops:Array Oper} {o:Oper} {a:Act} {K:Act→World→Prop} {Q:Exit→Act→World→Prop} {E:Prop} (hgd:o.guard=none) (s x:Operand) (t:TypeId)
  (ho:o.op=.call { callee:=.builtin .append,args:=#[s,x],argTypes:=#[t,t] })
  (e:TypeId) (i:TypeInfo) (z:Value) (size bytes:Nat) (ht:P.underlying t=some (.slice e)) (hi:P.info? e=some i) (hz:i.zero=some z)
  (hsize:i.size=size) (hby:i.bytes=bytes) (hzs:z.cells.size=size) (hsz:0<size)
  (g:Nat) (hs:a.eval s=.slice (some ⟨g,0,none⟩) 0 0) (hown:Blk w g e #[])
  (B:Nat) (A:Option Addr) (l:List (List Value)) (m c:Nat) (hx:a.eval x=.slice A m c) (hm:m=l.length) (hr:Rd w B size A l) (hl:∀ r∈l,r.length=size) (h1:∀ r∈l,∀ u∈r,u.oneCell'=true)
  (h63:l.length≤maxLen) (hbytes:l.length*bytes≤140737488355328)
  (h:∀ A' c' w',Rd w' w'.heap.size size A' l→w.grownBy w' (some g)→((∀ ad,A'=some ad→(ad.block=g∨ad.block=w.heap.size)∧ad.block<w'.heap.size)∧m≤c')→K (a.put o.dst (.slice A' m c')) w') :
  if Region.wanted o (yielded ops a.tmps)=true then Oper.wp P o a w K Q else E:=by
 grind[Region.wanted,wp_append_new]
end
theorem blk_new' {w:World} {g:Nat} {t:TypeId} {cs:Array Value} (h:g=w.heap.size):Blk (w.alloc (.cells cs t)) g t cs:=by simp_all[Blk.new]
theorem blk_grown {w w':World} {g:Nat} {t:TypeId} {cs:Array Value} {row:Option Nat} (h:Blk w g t cs)(hb:w.grownBy w' row)(hg:some g≠row):Blk w' g t cs:=(hb.block g h.lt hg).trans h
theorem blk_there {w:World} {b n:Nat} {t:TypeId} {cs:Array Value} (h:Blk w b t cs)(hn:n≤cs.size):w.there b 0 n:=fun j hj=>by
 rw [mJ,h.cell,h.frozen]
 grind
theorem there_drew {w:World} {b o n:Nat} (h:w.there b o n):w.drew.there b o n:=h
theorem there_grown {w w':World} {b o n g:Nat} (h:w.there b o n)(hg:w.grownBy w' (some g))(hne:b≠g):w'.there b o n:=fun j hj=>by
 obtain⟨h1,h2⟩:=h j hj
 obtain⟨u,hu⟩:=Option.isSome_iff_exists.1 h1
 have hb:=World.block_lt_of_cell? w _ hu
 have e:=hg.block b hb (by simpa using hne)
 grind[World.cell?_of_block,World.frozen?_of_block]
theorem there_setCell {w:World} {b o n:Nat} (h:w.there b o n)(p:Addr)(u:Value):(w.setCell p u).there b o n:=fun j hj=>by
 obtain⟨h1,h2⟩:=h j hj
 grind[World.frozen?_setCell,Option.isSome_iff_exists,World.cell?_setCell_same,World.cell?_setCell_other]
theorem there2 {w:World} {b:Nat} (h:w.there b 0 2):∃ u0 u1,w.cell? ⟨b,0,none⟩=some u0∧w.cell? ⟨b,1,none⟩=some u1∧w.frozen? ⟨b,0,none⟩=false∧w.frozen? ⟨b,1,none⟩=false:=by
 obtain ⟨a1,a2⟩:=h 0 aj
 obtain ⟨b1,b2⟩:=h 1 aj
 simp_all[Option.isSome_iff_exists]
def Stay(b:Nat)(w w':World):Prop:=b<w.heap.size∧w.heap.size≤w'.heap.size∧w'.heap[b]?=w.heap[b]?
theorem Stay.refl {b:Nat} {w:World} (h:b<w.heap.size):Stay b w w:=⟨h,Nat.le_refl _,rfl⟩
theorem Stay.drew {b:Nat} {w w':World} (h:Stay b w w'):Stay b w w'.drew:=h
theorem Stay.alloc {b:Nat} {w w':World} (h:Stay b w w')(o:Obj):Stay b w (w'.alloc o) :=
 ⟨h.1,iD h.2.1 (by simp),(Below.heap_alloc _ _ _ (jr h.1 h.2.1)).trans h.2.2⟩
theorem Stay.grown {b g:Nat} {w w' w'':World} (h:Stay b w w') (hg:w'.grownBy w'' (some g)) (hne:b≠g):Stay b w w'' :=
 ⟨h.1,iD h.2.1 hg.size,(hg.block b (jr h.1 h.2.1) (by simpa using hne)).trans h.2.2⟩
theorem Stay.setCell {b:Nat} {w w':World} (h:Stay b w w') {p:Addr} (hne:b≠p.block)(u:Value):Stay b w (w'.setCell p u) :=
 ⟨h.1,by simpa [World.setCell]using h.2.1,(Below.heap_setCell _ _ _ _ hne).trans h.2.2⟩
theorem bel_grown {a w w':World} {g:Nat} (h:Below a.heap.size a w)(hg:w.grownBy w' (some g))(hr:a.heap.size≤g):Below a.heap.size a w':=h.grown hg h.size (fun k e=>by simp_all)
theorem Rd.stay {w w':World} {size:Nat} {A:Option Addr} {l:List (List Value)} (h:Rd w w.heap.size size A l)(hs:∀ ad,A=some ad→ad.block<w.heap.size→Stay ad.block w w'):Rd w' w'.heap.size size A l:=fun hn=>by
 obtain⟨ad,e,hb,hc⟩:=h hn
 have s:=hs ad e hb
 exact⟨ad,e,jr hb s.2.1,fun k r hr j u hu=>(World.cell?_of_block (by rw [block_of_add];exact s.2.2)).trans (hc k r hr j u hu)⟩
inductive AV where
 | sc (v:Value)
 | ag (l:List AV)
 | tu (l:List AV)
 | ls (n:Nat)(rows:List (List AV))
 | ow (T:TypeId)(n:Nat)(rows:List (List AV))
 | pr (cells:List AV)
 | pt (k i j:Nat)
 | sl (k:Nat)
 | fn (f:FuncId)(caps:List AV)
def fnV (f:FuncId)(cs:Array Value):Value:=bif Nat.blt f 1000000 then .func (.func f) #[] cs else .func (.func (f-1000000)) cs #[]
theorem fnV_lo {f:FuncId} (h:Nat.blt f 1000000=true)(cs:Array Value):fnV f cs=.func (.func f) #[] cs:=by unfold fnV;rw [h];rfl
theorem fnV_hi (f:FuncId) (cs:Array Value):fnV (f+1000000) cs=.func (.func f) cs #[]:=by
 unfold fnV
 have h:Nat.blt (f+1000000) 1000000=false:=by
  cases e:Nat.blt (f+1000000) 1000000 with
  | false=>rfl
  | true=>exact absurd (aP e) aj
 rw [h]
 show Value.func (.func (f+1000000-1000000)) cs #[]=_
 rw [Nat.add_sub_cancel]
theorem fnV_or(f:FuncId)(cs:Array Value):∃ g x y,fnV f cs=.func g x y:=by
 unfold fnV
 cases Nat.blt f 1000000
 ·exact⟨_,_,_,rfl⟩
 ·exact⟨_,_,_,rfl⟩
abbrev View:=Addr→Option Value
inductive RP (F:View):AV→Value→Prop
 | sc (v:Value):RP F (.sc v) v
 | ag (l:List AV) (cs:Array Value):cs.size=l.length→(∀ (i:Nat) av u,l[i]?=some av→cs[i]?=some u→RP F av u)→RP F (.ag l) (.agg cs)
 | tu (l:List AV) (cs:Array Value):cs.size=l.length→(∀ (i:Nat) av u,l[i]?=some av→cs[i]?=some u→RP F av u)→RP F (.tu l) (.tuple cs)
 | ls (n:Nat) (rows:List (List AV)) (A:Option Addr) (cap:Nat) (ad:Addr) (u:Nat→Nat→Value):rows.length≤cap→(∀ r∈rows,r.length=n)→(0<rows.length→A=some ad) →
   (∀ (i:Nat) r (j:Nat) av,rows[i]?=some r→r[j]?=some av→F (ad.add (i*n+j))=some (u i j)∧(u i j).oneCell'=true) →
   (∀ (i:Nat) r (j:Nat) av,rows[i]?=some r→r[j]?=some av→RP F av (u i j))→RP F (.ls n rows) (.slice A rows.length cap)
 | pr (cells:List AV) (p:Addr) (u:Nat→Value):(∀ (j:Nat) av,cells[j]?=some av→F (p.add j)=some (u j)∧(u j).oneCell'=true) →
   (∀ (j:Nat) av,cells[j]?=some av→RP F av (u j))→RP F (.pr cells) (.pointer (some p))
 | fn (f:FuncId) (l:List AV) (cs:Array Value):cs.size=l.length→(∀ (i:Nat) av u,l[i]?=some av→cs[i]?=some u→RP F av u)→RP F (.fn f l) (fnV f cs)
def View.le(F F':View):Prop:=∀ p u,F p=some u→F' p=some u
theorem RP.mono {F F':View} (h:F.le F') {av:AV} {v:Value} (r:RP F av v):RP F' av v:=by
 induction r with
 | sc v=>exact .sc v
 | ag l cs h1 _ ih=>exact .ag l cs h1 ih
 | tu l cs h1 _ ih=>exact .tu l cs h1 ih
 | ls n rows A cap ad u h0 h1 h2 h3 _ ih=>exact .ls n rows A cap ad u h0 h1 h2 (fun i r j av a b=>⟨h _ _ (h3 i r j av a b).1,(h3 i r j av a b).2⟩) ih
 | pr cells p u h1 _ ih=>exact .pr cells p u (fun j av a=>⟨h _ _ (h1 j av a).1,(h1 j av a).2⟩) ih
 | fn f l cs h1 _ ih=>exact .fn f l cs h1 ih
structure Gh where
 F:View
 b:Nat→Nat
 n:Nat→Nat
 h:Nat→Value
 fp:Nat→Nat→Prop
inductive R (G:Gh):AV→Value→Prop
 | pu (av:AV) (v:Value):RP G.F av v→R G av v
 | pt (k i j:Nat) (p:Addr):p.block=G.b k→p.off=i*G.n k+j→p.spot=none→R G (.pt k i j) (.pointer (some p))
 | sl (k:Nat):(G.h k).oneCell'=true→R G (.sl k) (G.h k)
 | ag (l:List AV) (cs:Array Value):cs.size=l.length→(∀ (i:Nat)av u,l[i]?=some av→cs[i]?=some u→R G av u)→R G (.ag l) (.agg cs)
 | tu (l:List AV) (cs:Array Value):cs.size=l.length→(∀ (i:Nat)av u,l[i]?=some av→cs[i]?=some u→R G av u)→R G (.tu l) (.tuple cs)
 | fn (f:FuncId) (l:List AV) (cs:Array Value):cs.size=l.length→(∀ (i:Nat)av u,l[i]?=some av→cs[i]?=some u→R G av u)→R G (.fn f l) (fnV f cs)
inductive Bd (nk:Nat):AV→Prop
 | sc (v:Value):Bd nk (.sc v)
 | ls (n:Nat)(rows:List (List AV)):Bd nk (.ls n rows)
 | ow (T:TypeId)(n:Nat)(rows:List (List AV)):Bd nk (.ow T n rows)
 | pr (cells:List AV):Bd nk (.pr cells)
 | pt (k i j:Nat):k<nk→Bd nk (.pt k i j)
 | sl (k:Nat):k<nk→Bd nk (.sl k)
 | ag (l:List AV):(∀ (i:Nat)x,l[i]?=some x→Bd nk x)→Bd nk (.ag l)
 | tu (l:List AV):(∀ (i:Nat)x,l[i]?=some x→Bd nk x)→Bd nk (.tu l)
 | fn (f:FuncId)(l:List AV):(∀ (i:Nat)x,l[i]?=some x→Bd nk x)→Bd nk (.fn f l)
theorem Bd.mono {nk nk':Nat} (h:nk≤nk') {av:AV} (b:Bd nk av):Bd nk' av:=by
 induction b with
 | sc v=>exact .sc v
 | ls n rows=>exact .ls n rows
 | ow T n rows=>exact .ow T n rows
 | pr cells=>exact .pr cells
 | pt k i j hk=>exact .pt k i j aj
 | sl k hk=>exact .sl k aj
 | ag l _ ih=>exact .ag l ih
 | tu l _ ih=>exact .tu l ih
 | fn f l _ ih=>exact .fn f l ih
structure Gh.le(G G':Gh)(nk:Nat):Prop where
 F:G.F.le G'.F
 b:∀ k,k<nk→G'.b k=G.b k
 n:∀ k,k<nk→G'.n k=G.n k
 h:∀ k,k<nk→G'.h k=G.h k
theorem Gh.le.refl(G:Gh)(nk:Nat):G.le G nk:=⟨fun _ _ h=>h,fun _ _=>rfl,fun _ _=>rfl,fun _ _=>rfl⟩
theorem R.mono {G G':Gh} {nk:Nat} (h:G.le G' nk) {av:AV} {v:Value} (r:R G av v) (b:Bd nk av):R G' av v:=by
 induction r with
 | pu av v hp=>exact .pu _ _ (hp.mono h.F)
 | pt k i j p h1 h2 h3 =>
  cases b with
  | pt _ _ _ hk=>exact .pt k i j p (by rw [h.b k hk];exact h1) (by rw [h.n k hk];exact h2) h3
 | sl k h1 =>
  cases b with
  | sl _ hk=>rw [← h.h k hk];exact .sl k (by rw [h.h k hk];exact h1)
 | ag l cs h1 _ ih =>
  cases b with
  | ag _ hb=>exact .ag l cs h1 fun i av u a c=>ih i av u a c (hb i av a)
 | tu l cs h1 _ ih =>
  cases b with
  | tu _ hb=>exact .tu l cs h1 fun i av u a c=>ih i av u a c (hb i av a)
 | fn f l cs h1 _ ih =>
  cases b with
  | fn _ _ hb=>exact .fn f l cs h1 fun i av u a c=>ih i av u a c (hb i av a)
theorem RP.sc_eq {F:View} {v u:Value} (r:RP F (.sc v) u):u=v:=by cases r;rfl
theorem R.sc_eq {G:Gh} {v u:Value} (r:R G (.sc v) u):u=v:=by cases r with|pu _ _ h=>exact h.sc_eq
theorem R.pu_of {G:Gh} {n:Nat} {rows:List (List AV)} {u:Value} (r:R G (.ls n rows) u):RP G.F (.ls n rows) u:=by cases r<;>omega
theorem R.pr_of {G:Gh} {cells:List AV} {u:Value} (r:R G (.pr cells) u):RP G.F (.pr cells) u:=by cases r<;>omega
theorem RP.no_ow {F:View} {T n:Nat} {rows:List (List AV)} {u:Value} (r:RP F (.ow T n rows) u):False:=by cases r
theorem R.no_ow {G:Gh} {T n:Nat} {rows:List (List AV)} {u:Value} (r:R G (.ow T n rows) u):False:=by cases r with|pu _ _ h=>exact h.no_ow
theorem R.ag_of {G:Gh} {l:List AV} {u:Value} (r:R G (.ag l) u):∃ cs:Array Value,u=.agg cs∧cs.size=l.length∧∀ (i:Nat) av u,l[i]?=some av→cs[i]?=some u→R G av u:=by
 cases r with
 | pu _ _ h=>cases h with|ag _ cs h1 h2=>exact⟨cs,rfl,h1,fun i av u a b=>.pu _ _ (h2 i av u a b)⟩
 | ag _ cs h1 h2=>grind
theorem R.tu_of {G:Gh} {l:List AV} {u:Value} (r:R G (.tu l) u):∃ cs:Array Value,u=.tuple cs∧cs.size=l.length∧∀ (i:Nat) av u,l[i]?=some av→cs[i]?=some u→R G av u:=by
 cases r with
 | pu _ _ h=>cases h with|tu _ cs h1 h2=>exact⟨cs,rfl,h1,fun i av u a b=>.pu _ _ (h2 i av u a b)⟩
 | tu _ cs h1 h2=>grind
theorem R.fn_of {G:Gh} {f:FuncId} {l:List AV} {u:Value} (r:R G (.fn f l) u):∃ cs:Array Value,u=fnV f cs∧cs.size=l.length∧∀ (i:Nat) av u,l[i]?=some av→cs[i]?=some u→R G av u:=by
 cases r with
 | pu _ _ h=>cases h with|fn _ _ cs h1 h2=>exact⟨cs,rfl,h1,fun i av u a b=>.pu _ _ (h2 i av u a b)⟩
 | fn _ _ cs h1 h2=>grind
theorem R.pt_of {G:Gh} {k i j:Nat} {u:Value} (r:R G (.pt k i j) u):∃ p:Addr,u=.pointer (some p)∧p.block=G.b k∧p.off=i*G.n k+j∧p.spot=none:=by
 cases r with
 | pu _ _ h=>cases h
 | pt _ _ _ p a b c=>simp_all
theorem R.sl_of {G:Gh} {k:Nat} {u:Value} (r:R G (.sl k) u):u=G.h k∧u.oneCell'=true:=by
 cases r with
 | pu _ _ h=>cases h
 | sl _ h=>exact⟨rfl,h⟩
theorem RP.ls_of {F:View} {n:Nat} {rows:List (List AV)} {v:Value} (r:RP F (.ls n rows) v):∃ A cap ad,∃ u:Nat→Nat→Value,v=.slice A rows.length cap∧(∀ r∈rows,r.length=n)∧(0<rows.length→A=some ad) ∧
  (∀ (i:Nat) r (j:Nat) av,rows[i]?=some r→r[j]?=some av→F (ad.add (i*n+j))=some (u i j)∧(u i j).oneCell'=true)∧(∀ (i:Nat) r (j:Nat) av,rows[i]?=some r→r[j]?=some av→RP F av (u i j))∧rows.length≤cap:=by
 cases r with|ls _ _ A cap ad u h0 h1 h2 h3 h4=>exact⟨A,cap,ad,u,rfl,h1,h2,h3,h4,h0⟩
theorem RP.pr_of {F:View} {cells:List AV} {v:Value} (r:RP F (.pr cells) v):∃ p:Addr,∃ u:Nat→Value,v=.pointer (some p)∧(∀ (j:Nat) av,cells[j]?=some av→F (p.add j)=some (u j)∧(u j).oneCell'=true) ∧
   (∀ (j:Nat) av,cells[j]?=some av→RP F av (u j)):=by
 cases r with|pr _ p u h1 h2=>exact⟨p,u,rfl,h1,h2⟩
inductive OW (F:View)(w:World):AV→Value→(Nat→Prop)→Prop
 | pu (av:AV)(v:Value)(φ:Nat→Prop):RP F av v→OW F w av v φ
 | ow (T n:Nat)(rows:List (List AV))(v:Value)(φ:Nat→Prop)(vs:List (List Value))(Φ:Nat→Nat→Nat→Prop):(∀ r∈rows,r.length=n)→w.ownsRow 0 T n v vs.length vs.flatten→vs.length=rows.length→(∀ r∈vs,∀ u∈r,u.oneCell'=true) →
   (∀ g,v.ownBlock=some g→φ g)→(∀ i j x,Φ i j x→φ x∧v.ownBlock≠some x)→(∀ i j i' j' x,Φ i j x→Φ i' j' x→i=i'∧j=j') →
   (∀ (i:Nat) r r',rows[i]?=some r→vs[i]?=some r'→r'.length=r.length) →
   (∀ (i:Nat) r r' (j:Nat) av u,rows[i]?=some r→vs[i]?=some r'→r[j]?=some av→r'[j]?=some u→OW F w av u (Φ i j))→OW F w (.ow T n rows) v φ
def CR(G:Gh)(w:World)(φ:Nat→Prop)(av:AV)(u:Value):Prop:=R G av u∨OW G.F w av u φ
def RowIs (w:World)(T n:Nat)(rows:List (List AV))(v:Value)(φ:Nat→Prop)(X:Nat→Nat→(Nat→Prop)→AV→Value→Prop):Prop :=
 (∀ r∈rows,r.length=n)∧∃ (vs:List (List Value))(Φ:Nat→Nat→Nat→Prop),w.ownsRow 0 T n v vs.length vs.flatten∧vs.length=rows.length∧(∀ r∈vs,∀ u∈r,u.oneCell'=true) ∧
   (∀ g,v.ownBlock=some g→φ g)∧(∀ i j x,Φ i j x→φ x∧v.ownBlock≠some x)∧(∀ i j i' j' x,Φ i j x→Φ i' j' x→i=i'∧j=j') ∧
   (∀ (i:Nat) r r',rows[i]?=some r→vs[i]?=some r'→r'.length=r.length) ∧
   (∀ (i:Nat) r r' (j:Nat) av u,rows[i]?=some r→vs[i]?=some r'→r[j]?=some av→r'[j]?=some u→X i j (Φ i j) av u)
def XP(F:View):Nat→Nat→(Nat→Prop)→AV→Value→Prop:=fun _ _ _ av u=>RP F av u
def XO(F:View)(w:World):Nat→Nat→(Nat→Prop)→AV→Value→Prop:=fun _ _ φ av u=>OW F w av u φ
def XH(G:Gh)(hi hj:Nat)(x:AV):Nat→Nat→(Nat→Prop)→AV→Value→Prop:=fun i j _ av u=>if i=hi∧j=hj then R G x u else RP G.F av u
def XQ(G:Gh)(w:World)(hi hj:Nat)(x:AV):Nat→Nat→(Nat→Prop)→AV→Value→Prop:=fun i j φ av u=>if i=hi∧j=hj then R G x u else OW G.F w av u φ
theorem RowIs.ow {F:View} {w:World} {T n:Nat} {rows:List (List AV)} {v:Value} {φ:Nat→Prop} (h:RowIs w T n rows v φ (XO F w)):OW F w (.ow T n rows) v φ:=by
 obtain⟨h1,vs,Φ,h2,h3,h4,h5,h6,h7,h8,h9⟩:=h
 exact .ow T n rows v φ vs Φ h1 h2 h3 h4 h5 h6 h7 h8 h9
theorem OW.row {F:View} {w:World} {T n:Nat} {rows:List (List AV)} {v:Value} {φ:Nat→Prop} (h:OW F w (.ow T n rows) v φ):RowIs w T n rows v φ (XO F w):=by
 cases h with
 | pu _ _ _ r=>exact r.no_ow.elim
 | ow _ _ _ _ _ vs Φ h1 h2 h3 h4 h5 h6 h7 h8 h9=>exact⟨h1,vs,Φ,h2,h3,h4,h5,h6,h7,h8,h9⟩
theorem ownsRow_keep {w w':World} {B e size n:Nat} {v:Value} {xs:List Value} (h:w.ownsRow B e size v n xs) (hk:∀ g,v.ownBlock=some g→w'.heap[g]?=w.heap[g]?):w'.ownsRow B e size v n xs:=by
 refine ⟨h.1,?_⟩
 rcases h.2 with x|⟨g,cap,cur,e,hb,hh,hr⟩
 ·exact .inl x
 ·exact .inr ⟨g,cap,cur,e,hb,(hk g (by rw [e];rfl)).trans hh,hr⟩
theorem OW.keep {F F':View} {w w':World} {av:AV} {v:Value} {φ:Nat→Prop} (hF:F.le F')(h:OW F w av v φ):(∀ x,φ x→w'.heap[x]?=w.heap[x]?)→OW F' w' av v φ:=by
 induction h with
 | pu av v φ r=>exact fun _=>.pu av v φ (r.mono hF)
 | ow T n rows v φ vs Φ h1 h2 h3 h4 h5 h6 h7 h8 _ ih =>
  intro hw
  exact .ow T n rows v φ vs Φ h1 (ownsRow_keep h2 fun g hg=>hw g (h5 g hg)) h3 h4 h5 h6 h7 h8 fun i r r' j av u a b c d=>ih i r r' j av u a b c d fun x hx=>hw x (h6 i j x hx).1
theorem OW.wide {F:View} {w:World} {av:AV} {v:Value} {φ φ':Nat→Prop} (h:OW F w av v φ) (hp:∀ x,φ x→φ' x):OW F w av v φ':=by
 cases h with
 | pu _ _ _ r=>exact .pu av v φ' r
 | ow T n rows _ _ vs Φ h1 h2 h3 h4 h5 h6 h7 h8 h9=>exact .ow T n rows v φ' vs Φ h1 h2 h3 h4 (fun g hg=>hp g (h5 g hg)) (fun i j x hx=>⟨hp x (h6 i j x hx).1,(h6 i j x hx).2⟩) h7 h8 h9
theorem CR.keep {G G':Gh} {w w':World} {nk:Nat} {φ:Nat→Prop} {av:AV} {v:Value} (h:CR G w φ av v)(hle:G.le G' nk)(hb:Bd nk av)(hw:∀ x,φ x→w'.heap[x]?=w.heap[x]?):CR G' w' φ av v :=
 h.elim (fun r=>.inl (r.mono hle hb)) fun o=>.inr (o.keep hle.F hw)
def AV.own:AV→Bool
 | .ow _ _ _=>true
 | _=>false
theorem CR.r {G:Gh} {w:World} {φ:Nat→Prop} {av:AV} {v:Value} (h:CR G w φ av v)(ho:av.own=false):R G av v:=by
 rcases h with r|o
 ·exact r
 ·cases o with
  | pu _ _ _ r=>exact .pu _ _ r
  | ow=>cases ho
theorem OW.p {F:View} {w:World} {φ:Nat→Prop} {av:AV} {v:Value} (h:OW F w av v φ)(ho:av.own=false):RP F av v:=by
 cases h with
 | pu _ _ _ r=>exact r
 | ow=>cases ho
theorem CR.wide {G:Gh} {w:World} {φ φ':Nat→Prop} {av:AV} {v:Value} (h:CR G w φ av v)(hp:∀ x,φ x→φ' x):CR G w φ' av v:=h.elim .inl fun o=>.inr (o.wide hp)
def BldIs (w:World) (T e b:Nat) (φ:Nat→Prop) (l:List UInt8):Prop :=
 ∃ p v,(p=.pointer none∨p=.pointer (some ⟨b,0,none⟩))∧w.heap[b]?=some (.cells #[p,v] T (0,0))∧w.ownsRowF 0 e 1 v l.length (Lib.byteCells l)∧∀ g,v.ownBlock=some g→φ g∧g≠b
structure Opq where
 Q:World→Nat→Value→(Nat→Prop)→Prop
 st:∀ w w' b v φ,(∀ x,φ x→w'.heap[x]?=w.heap[x]?)→Q w b v φ→Q w' b v φ
inductive AO where
 | box (T:TypeId)(cells:List AV)
 | row (T:TypeId)(n:Nat)(rows:List (List AV))
 | rwn (T:TypeId)(n:Nat)(rows:List (List AV))
 | rof (T:TypeId)(n:Nat)(rows:List (List AV))(hi hj:Nat)(x:AV)
 | rwo (T:TypeId)(n:Nat)(rows:List (List AV))(hi hj:Nat)(x:AV)
 | bld (T e:TypeId)(l:List UInt8)
 | opq (q:Opq)
def RL(F:View)(l:List AV)(vs:List Value):Prop:=vs.length=l.length∧∀ (i:Nat)av u,l[i]?=some av→vs[i]?=some u→RP F av u
def BoxIs (w:World)(T b:Nat)(φ:Nat→Prop)(cells:List AV)(X:(Nat→Prop)→AV→Value→Prop):Prop :=
 ∃ (cs:Array Value)(Φ:Nat→Nat→Prop),Blk w b T cs∧cs.size=cells.length∧(∀ i x,Φ i x→φ x∧x≠b)∧(∀ i i' x,Φ i x→Φ i' x→i=i')∧∀ (i:Nat) av u,cells[i]?=some av→cs[i]?=some u→X (Φ i) av u
def ObAt (G:Gh) (w:World) (k:Nat):AO→Prop
 | .box T cells=>G.fp k (G.b k)∧BoxIs w T (G.b k) (G.fp k) cells (CR G w)
 | .row T n rows=>G.n k=n∧(∀ g,(G.h k).ownBlock=some g→g=G.b k)∧RowIs w T n rows (G.h k) (G.fp k) (XP G.F)
 | .rwn T n rows=>G.n k=n∧(∀ g,(G.h k).ownBlock=some g→g=G.b k)∧RowIs w T n rows (G.h k) (G.fp k) (XO G.F w)
 | .rof T n rows hi hj x=>G.n k=n∧(∀ g,(G.h k).ownBlock=some g→g=G.b k)∧RowIs w T n rows (G.h k) (G.fp k) (XH G hi hj x)
 | .rwo T n rows hi hj x=>G.n k=n∧(∀ g,(G.h k).ownBlock=some g→g=G.b k)∧RowIs w T n rows (G.h k) (G.fp k) (XQ G w hi hj x)
 | .bld T e l=>G.fp k (G.b k)∧BldIs w T e (G.b k) (G.fp k) l
 | .opq q=>q.Q w (G.b k) (G.h k) (G.fp k)
def AO.bd(nk:Nat):AO→Prop
 | .box _ cells=>∀ (i:Nat)av,cells[i]?=some av→Bd nk av
 | .row _ _ _=>True
 | .rwn _ _ _=>True
 | .rof _ _ _ _ _ x=>Bd nk x
 | .rwo _ _ _ _ _ x=>Bd nk x
 | .bld _ _ _=>True
 | .opq _=>True
def look {α:Type} (i:Nat):List (Nat×α)→Option α
 | []=>none
 | x::r=>bif Nat.beq i x.1 then some x.2 else look i r
structure Kept(S:Nat→Prop)(w w':World):Prop where
 os:w'.os=w.os
 tape:w'.tape=w.tape
 output:w'.output=w.output
 size:w.heap.size≤w'.heap.size
 block:∀ k,k<w.heap.size→¬ S k→w'.heap[k]?=w.heap[k]?
theorem Kept.refl(S:Nat→Prop)(w:World):Kept S w w:=⟨rfl,rfl,rfl,Nat.le_refl _,fun _ _ _=>rfl⟩
theorem Kept.below {S:Nat→Prop} {w w':World} (h:Below w.heap.size w w'):Kept S w w':=⟨h.os,h.tape,h.output,h.size,fun i hi _=>h.block i hi⟩
theorem Kept.to_below {S:Nat→Prop} {w w':World} (h:Kept S w w')(hs:∀ x,¬ S x):Below w.heap.size w w':=⟨h.os,h.tape,h.output,h.size,fun i hi=>h.block i hi (hs i)⟩
theorem Kept.on {S S':Nat→Prop} {a b c:World} (h:Kept S a b)(k:Kept S' b c)(hs:∀ x,S' x→a.heap.size≤x∨S x):Kept S a c :=
 ⟨k.os.trans h.os,k.tape.trans h.tape,k.output.trans h.output,iD h.size k.size,fun i hi hn=>(k.block i (jr hi h.size) fun x=>(hs i x).elim (fun y=>by omega) hn).trans (h.block i hi hn)⟩
structure Cx where
 w0:World
 F0:View
 N:Nat
 fp:Nat→Prop
 np:Nat
 pg:Gh
 ds:List Deferred
def Cx.may(C:Cx)(x:Nat):Prop:=C.w0.heap.size≤x∨C.fp x
structure St where
 t:List (Nat×AV)
 M:List (Nat×AO)
 nk:Nat
structure Ok (C:Cx)(σ:St)(G:Gh)(a:Act)(w:World):Prop where
 sz:a.tmps.size=C.N
 df:a.defers=C.ds∧C.np≤σ.nk∧∀ k,k<C.np→G.b k=C.pg.b k∧G.n k=C.pg.n k∧G.h k=C.pg.h k
 tm:∀ i av,look i σ.t=some av→i<C.N∧Bd σ.nk av∧R G av (a.tmps.getD i undef)
 bel:Kept C.fp C.w0 w
 fw:∀ p u,G.F p=some u→w.cell? p=some u
 f0:C.F0.le G.F
 f1:∀ p u,G.F p=some u→C.F0 p=some u∨C.may p.block
 ob:∀ k o,look k σ.M=some o→k<σ.nk∧o.bd σ.nk∧ObAt G w k o
 my:∀ k o x,look k σ.M=some o→G.fp k x→C.may x∧x<w.heap.size
 dj:∀ k o k' o' x,look k σ.M=some o→look k' σ.M=some o'→G.fp k x→G.fp k' x→k=k'
 dF:∀ k o x p u,look k σ.M=some o→G.fp k x→G.F p=some u→p.block≠x
theorem cell_block {w:World} {p:Addr} {u:Value} (h:w.cell? p=some u):p.block<w.heap.size:=by
 grind[World.cell?]
theorem look_set_same {α:Type} {i:Nat} {x:α} {r:List (Nat×α)}:look i ((i,x)::r)=some x:=by
 simp [look]
theorem look_set_other {α:Type} {i j:Nat} {x:α} {r:List (Nat×α)} (h:i≠j):look i ((j,x)::r)=look i r:=by
 grind[dQ,look]
end
end Go.Proofs.YthohlofpphjofaaGreatDoor
