/- Marks and cells of the program, in one system. -/
import Derived.Test.YthehkchjdkdbiaaGreatDoorPl2Hq
import Derived.Test.YthehkchjdkdbiaaGreatDoorRMkHq
set_option maxHeartbeats 1600000
set_option maxRecDepth 100000
set_option linter.unusedVariables false
set_option linter.unusedSimpArgs false
namespace Go.Proofs.YthehkchjdkdbiaaGreatDoor
open Go.RowKit
attribute [local go_sem]mk_bs bs_size bs_toList bs_append bs_extract
attribute [local simp]run_cut run_cut_to run_cut_from run_add_bs
theorem pright_2 (n:Int)(w:World)(h:0≤n∧n≤3) :
  Calls Tryz.prog 335 #[.agg #[],.int .i64 n] w (Ret (.tuple #[.string (bs (rR 2 n)),.bool (okR 2 n)]) w):=by
 have h4:n=0∨n=1∨n=2∨n=3:=by omega
 clear h
 rcases h4 with rfl|rfl|rfl|rfl
 all_goals
  go_enter Tryz.func335,Tryz.ntmps335
  go_wp2
  go_ret2
  exact Ret.mk' rfl zqb
theorem pgrace_2 (n:Int)(w:World)(h:0≤n∧n≤4) :
  Calls Tryz.prog 330 #[.agg #[],.int .i64 n] w (Ret (.tuple #[.string (bs (rG 2 n)),.bool (okG 2 n)]) w):=by
 have h4:n=0∨n=1∨n=2∨n=3∨n=4:=by omega
 clear h
 rcases h4 with rfl|rfl|rfl|rfl|rfl
 all_goals
  go_enter Tryz.func330,Tryz.ntmps330
  go_wp2
  go_ret2
  exact Ret.mk' rfl zqb
theorem phold_2 (n L:Int) (w:World) (h:0≤n∧n≤15) :
  Calls Tryz.prog 329 #[.agg #[],.int .i64 n,.int .i64 L] w (Ret (.tuple #[.string (bs (pH 2 n L)),.bool (okH 2 n L)]) w):=by
 obtain ⟨hn0,hn1⟩:=h
 by_cases h0:n=0
 ·subst h0
  go_enter Tryz.func329,Tryz.ntmps329
  go_wp2
  go_ret2
  exact Ret.mk' rfl zqb
 ·have hb:(n == 0)=false:=by simp;exact h0
  have e0:pH 2 n L=rH 2 n L:=if_neg h0
  have e1:okH 2 n L=!(rH 2 n L).isEmpty:=by unfold okH;rw [hb];rfl
  rw [e0,e1]
  by_cases hL:n=L
  ·have e2:rH 2 n L=[42]:=by unfold rH;rw [if_neg (by decide),if_pos ⟨by decide,hL⟩]
   have hbL:(n == L)=true:=by simpa using hL
   rw [e2]
   clear e0 e1 e2 hL
   go_enter Tryz.func329,Tryz.ntmps329
   go_wp2
   go_ret2
   exact Ret.mk' rfl zqb
  ·have e2:rH 2 n L=[]:=by unfold rH;rw [if_neg (by decide),if_neg (fun h=>hL h.2)]
   have hbL:(n == L)=false:=by simpa using hL
   rw [e2]
   clear e0 e1 e2 hL
   go_enter Tryz.func329,Tryz.ntmps329
   go_wp2
   go_ret2
   exact Ret.mk' rfl zqb
end Go.Proofs.YthehkchjdkdbiaaGreatDoor
