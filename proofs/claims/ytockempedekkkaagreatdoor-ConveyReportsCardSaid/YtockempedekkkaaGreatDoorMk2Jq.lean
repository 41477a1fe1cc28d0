/- Marks and cells of the program, in one system. -/
import Derived.Test.YtockempedekkkaaGreatDoorMkPJq
set_option maxHeartbeats 1600000
set_option maxRecDepth 100000
set_option linter.unusedVariables false
set_option linter.unusedSimpArgs false
namespace Go.Proofs.YtockempedekkkaaGreatDoor
section
open Go.RowKit
attribute [local go_sem]mk_bs bs_size bs_toList bs_append bs_extract
attribute [local simp]run_cut run_cut_to run_cut_from run_add_bs
theorem of_2 (w:World):Calls Tryz.prog 52 #[.int .u8 2] w fun e w'=>e=.returned (.tuple #[(.iface 165 (.agg #[])),.bool true])∧w=w':=by
 go_enter Tryz.func52,Tryz.ntmps52
 go_wp2
 go_ret2
 exact⟨rfl,rfl⟩
end
section
open Go.RowKit
attribute [local go_sem]mk_bs bs_size bs_toList bs_append bs_extract
attribute [local simp]run_cut run_cut_to run_cut_from run_add_bs
theorem pright_2 (n:Int)(w:World)(h:0≤n∧n≤3) :
  Calls Tryz.prog 192 #[.agg #[],.int .i64 n] w (Ret (.tuple #[.string (bs (rR 2 n)),.bool (okR 2 n)]) w):=by
 have h4:n=0∨n=1∨n=2∨n=3:=by omega
 clear h
 rcases h4 with rfl|rfl|rfl|rfl
 all_goals
  go_enter Tryz.func192,Tryz.ntmps192
  go_wp2
  go_ret2
  exact Ret.mk' rfl zqb
theorem pgrace_2 (n:Int)(w:World)(h:0≤n∧n≤4) :
  Calls Tryz.prog 187 #[.agg #[],.int .i64 n] w (Ret (.tuple #[.string (bs (rG 2 n)),.bool (okG 2 n)]) w):=by
 have h4:n=0∨n=1∨n=2∨n=3∨n=4:=by omega
 clear h
 rcases h4 with rfl|rfl|rfl|rfl|rfl
 all_goals
  go_enter Tryz.func187,Tryz.ntmps187
  go_wp2
  go_ret2
  exact Ret.mk' rfl zqb
theorem phold_2 (n L:Int) (w:World) (h:0≤n∧n≤15) :
  Calls Tryz.prog 186 #[.agg #[],.int .i64 n,.int .i64 L] w (Ret (.tuple #[.string (bs (pH 2 n L)),.bool (okH 2 n L)]) w):=by
 obtain ⟨hn0,hn1⟩:=h
 by_cases h0:n=0
 ·subst h0
  go_enter Tryz.func186,Tryz.ntmps186
  go_wp2
  go_ret2
  exact Ret.mk' rfl zqb
 ·have hb:(n == 0)=false:=by simp;exact h0
  have e0:pH 2 n L=rH 2 n L:=if_neg h0
  have e1:okH 2 n L=!(rH 2 n L).isEmpty:=by unfold okH;rw [hb];rfl
  rw [e0,e1]
  by_cases hL:n=L
  ·have e2:rH 2 n L=[42]:=by unfold rH;rw [if_neg (by decide),if_pos ⟨by decide,hL⟩]
   have hbL:(n == L)=true:=by simpa using hL
   rw [e2]
   clear e0 e1 e2 hL
   go_enter Tryz.func186,Tryz.ntmps186
   go_wp2
   go_ret2
   exact Ret.mk' rfl zqb
  ·have e2:rH 2 n L=[]:=by unfold rH;rw [if_neg (by decide),if_neg (fun h=>hL h.2)]
   have hbL:(n == L)=false:=by simpa using hL
   rw [e2]
   clear e0 e1 e2 hL
   go_enter Tryz.func186,Tryz.ntmps186
   go_wp2
   go_ret2
   exact Ret.mk' rfl zqb
theorem pcell_2 (c f r g h L:Int) (w:World) (hc:1≤c∧c≤14) (hf:0≤f∧f≤18) (hr:0≤r∧r≤3) (hg:0≤g∧g≤4) (hh:0≤h∧h≤15) :
  Calls Tryz.prog 66 #[(.iface 165 (.agg #[])),.agg #[.int .i64 c,.int .i64 f,.int .i64 r,.int .i64 g,.int .i64 h],.int .i64 L] w
   (Ret (.tuple #[.string (bs (cellS 2 c f r g h L)),.bool (cellOk 2 c f r g h L)]) w):=by
 have a1:=(pS_len 2 c f (by decide) hc hf).1
 have a2:=rR_len 2 r
 have a3:=rG_len 2 g
 have a4:=pH_len 2 h L
 have b1:(pS 2 c f).length+(rR 2 r).length≤9223372036854775807:=by omega
 have b2:(pS 2 c f).length+(rR 2 r).length+(rG 2 g).length≤9223372036854775807:=by omega
 have b2':(pS 2 c f).length+((rR 2 r).length+(rG 2 g).length)≤9223372036854775807:=by omega
 have b3:(pS 2 c f).length+(rR 2 r).length+(rG 2 g).length+(pH 2 h L).length≤9223372036854775807:=by omega
 have b3':(pS 2 c f).length+((rR 2 r).length+((rG 2 g).length+(pH 2 h L).length))≤9223372036854775807:=by omega
 have b3c:(pS 2 c f).length+((rR 2 r).length+(rG 2 g).length)+(pH 2 h L).length≤9223372036854775807:=by omega
 clear a1 a2 a3 a4
 unfold cellS cellOk
 go_enter Tryz.func66,Tryz.ntmps66
 go_wp2_with (first
  | (go_at_call 193;refine (psym_2 _ _ _ hc hf).mono ?_;rintro e w1 ⟨rfl,hb1⟩;have k1:=(Blk.new _ _ _).after hb1;have x1:w1.cell? ⟨w.heap.size,2,none⟩=some (.int .i64 r):=k1.cell 2;have K1:=Lib.hid k1;clear k1)
  | (go_at_call 192;refine (pright_2 _ _ hr).mono ?_;rintro e w2 ⟨rfl,hb2⟩;have k2:=K1.out.after hb2;have x2:w2.cell? ⟨w.heap.size,3,none⟩=some (.int .i64 g):=k2.cell 3;have K2:=Lib.hid k2;clear k2)
  | (go_at_call 187;refine (pgrace_2 _ _ hg).mono ?_;rintro e w3 ⟨rfl,hb3⟩;have k3:=K2.out.after hb3;have x3:w3.cell? ⟨w.heap.size,4,none⟩=some (.int .i64 h):=k3.cell 4;have K3:=Lib.hid k3;clear k3)
  | (go_at_call 186;refine (phold_2 _ _ _ hh).mono ?_;rintro e w4 ⟨rfl,hb4⟩))
 all_goals go_ret2
 all_goals exact Ret.mk' (by simp [*]) zqb
end
end Go.Proofs.YtockempedekkkaaGreatDoor
