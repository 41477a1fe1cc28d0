/- Marks and cells of the program, in one system. -/
import Derived.Test.YthehkchjdkdbiaaGreatDoorPl1Gq
import Derived.Test.YthehkchjdkdbiaaGreatDoorEZGq
set_option maxHeartbeats 1600000
set_option maxRecDepth 100000
set_option linter.unusedVariables false
set_option linter.unusedSimpArgs false
namespace Go.Proofs.YthehkchjdkdbiaaGreatDoor
open Go.RowKit
attribute [local go_sem]mk_bs bs_size bs_toList bs_append bs_extract
attribute [local simp]run_cut run_cut_to run_cut_from run_add_bs
theorem pright_1 (n:Int)(w:World)(h:0≤n∧n≤3) :
  Calls Tryz.prog 320 #[.agg #[],.int .i64 n] w (Ret (.tuple #[.string (bs (rR 1 n)),.bool (okR 1 n)]) w):=by
 have h4:n=0∨n=1∨n=2∨n=3:=by omega
 clear h
 rcases h4 with rfl|rfl|rfl|rfl
 all_goals
  go_enter Tryz.func320,Tryz.ntmps320
  go_wp2
  go_ret2
  exact Ret.mk' rfl zqb
theorem pgrace_1 (n:Int)(w:World)(h:0≤n∧n≤4) :
  Calls Tryz.prog 314 #[.agg #[],.int .i64 n] w (Ret (.tuple #[.string (bs (rG 1 n)),.bool (okG 1 n)]) w):=by
 have h4:n=0∨n=1∨n=2∨n=3∨n=4:=by omega
 clear h
 rcases h4 with rfl|rfl|rfl|rfl|rfl
 all_goals
  go_enter Tryz.func314,Tryz.ntmps314
  go_wp2
  go_ret2
  exact Ret.mk' rfl zqb
theorem phold_1 (n L:Int)(w:World)(h:0≤n∧n≤15) :
  Calls Tryz.prog 316 #[.agg #[],.int .i64 n,.int .i64 L] w (Ret (.tuple #[.string (bs (pH 1 n L)),.bool (okH 1 n L)]) w):=by
 obtain⟨hn0,hn1⟩:=h
 by_cases h0:n=0
 ·subst h0
  go_enter Tryz.func316,Tryz.ntmps316
  go_wp2
  go_ret2
  exact Ret.mk' rfl zqb
 ·have hb:(n == 0)=false:=by simp;exact h0
  have e0:pH 1 n L=rH 1 n L:=if_neg h0
  have e1:okH 1 n L=!(rH 1 n L).isEmpty:=by unfold okH;rw [hb];rfl
  rw [e0,e1]
  have e2:rH 1 n L=95::dig2 n.toNat:=if_pos rfl
  have hl:([95]:List UInt8).length+(dig2 n.toNat).length≤9223372036854775807:=by have:=dig2_len n.toNat;simp;omega
  have hl':1+(dig2 n.toNat).length≤9223372036854775807:=by have:=dig2_len n.toNat;omega
  rw [e2]
  clear e0 e1 e2
  go_enter Tryz.func316,Tryz.ntmps316
  go_wp2_with (go_at_call 108;refine (itoa_any _ _ hn0 (by omega)).mono ?_;rintro e w'⟨rfl,hw⟩;rw [hw];clear hw)
  go_ret2
  exact Ret.mk' rfl zqb
theorem pcell_1 (c f r g h L:Int) (w:World) (hc:1≤c∧c≤14) (hf:0≤f∧f≤18) (hr:0≤r∧r≤3) (hg:0≤g∧g≤4) (hh:0≤h∧h≤15) :
  Calls Tryz.prog 87 #[(.iface 170 (.agg #[])),.agg #[.int .i64 c,.int .i64 f,.int .i64 r,.int .i64 g,.int .i64 h],.int .i64 L] w
   (Ret (.tuple #[.string (bs (cellS 1 c f r g h L)),.bool (cellOk 1 c f r g h L)]) w):=by
 have a1:=(pS_len 1 c f (by decide) hc hf).1
 have a2:=rR_len 1 r
 have a3:=rG_len 1 g
 have a4:=pH_len 1 h L
 have b1:(pS 1 c f).length+(rR 1 r).length≤9223372036854775807:=by omega
 have b2:(pS 1 c f).length+(rR 1 r).length+(rG 1 g).length≤9223372036854775807:=by omega
 have b2':(pS 1 c f).length+((rR 1 r).length+(rG 1 g).length)≤9223372036854775807:=by omega
 have b3:(pS 1 c f).length+(rR 1 r).length+(rG 1 g).length+(pH 1 h L).length≤9223372036854775807:=by omega
 have b3':(pS 1 c f).length+((rR 1 r).length+((rG 1 g).length+(pH 1 h L).length))≤9223372036854775807:=by omega
 have b3c:(pS 1 c f).length+((rR 1 r).length+(rG 1 g).length)+(pH 1 h L).length≤9223372036854775807:=by omega
 clear a1 a2 a3 a4
 unfold cellS cellOk
 go_enter Tryz.func87,Tryz.ntmps87
 go_wp2_with (first
  | (go_at_call 321;refine (psym_1 _ _ _ hc hf).mono ?_;rintro e w1 ⟨rfl,hb1⟩;have k1:=(Blk.new _ _ _).after hb1;have x1:w1.cell? ⟨w.heap.size,2,none⟩=some (.int .i64 r):=k1.cell 2;have K1:=Lib.hid k1;clear k1)
  | (go_at_call 320;refine (pright_1 _ _ hr).mono ?_;rintro e w2 ⟨rfl,hb2⟩;have k2:=K1.out.after hb2;have x2:w2.cell? ⟨w.heap.size,3,none⟩=some (.int .i64 g):=k2.cell 3;have K2:=Lib.hid k2;clear k2)
  | (go_at_call 314;refine (pgrace_1 _ _ hg).mono ?_;rintro e w3 ⟨rfl,hb3⟩;have k3:=K2.out.after hb3;have x3:w3.cell? ⟨w.heap.size,4,none⟩=some (.int .i64 h):=k3.cell 4;have K3:=Lib.hid k3;clear k3)
  | (go_at_call 316;refine (phold_1 _ _ _ hh).mono ?_;rintro e w4 ⟨rfl,hb4⟩))
 all_goals go_ret2
 all_goals exact Ret.mk' (by simp [*]) zqb
end Go.Proofs.YthehkchjdkdbiaaGreatDoor
