/- Symbol and Place of the program, in one system. -/
import Derived.Test.YtkgnmddakiagbaaGreatDoorChPWq
set_option linter.unusedVariables false
set_option linter.unusedSimpArgs false
namespace Go.Proofs.YtkgnmddakiagbaaGreatDoor
open Go.RowKit
set_option maxHeartbeats 1600000
set_option maxRecDepth 100000
attribute [local go_sem] mk_bs bs_size bs_toList bs_append bs_extract
attribute [local simp] run_cut run_cut_to run_cut_from run_add_bs
theorem of_bad (n:Int) (w:World) (h:n<1∨4<n):Calls Tryz.prog 44 #[.int .u8 n] w fun e w'=>e=.returned (.tuple #[.nilIface,.bool false])∧w=w':=by
 have h1:(n == 1)=false:=by simp;omega
 have h2:(n == 2)=false:=by simp;omega
 have h3:(n == 3)=false:=by simp;omega
 have h4:(n == 4)=false:=by simp;omega
 go_enter Tryz.func44,Tryz.ntmps44
 go_wp2
 go_ret2
 exact ⟨rfl,rfl⟩
theorem psym_1 (c f:Int) (w:World) (hc:1≤c∧c≤14) (hf:0≤f∧f≤18) :
  Calls Tryz.prog 274 #[.agg #[],.agg #[.int .i64 c,.int .i64 f]] w (Ret (.tuple #[.string (bs (pS 1 c f)),.bool (pOk 1 c f)]) w):=fr_symbol c f w hc hf
theorem psym_2 (c f:Int) (w:World) (hc:1≤c∧c≤14) (hf:0≤f∧f≤18) :
  Calls Tryz.prog 289 #[.agg #[],.agg #[.int .i64 c,.int .i64 f]] w (Ret (.tuple #[.string (bs (pS 2 c f)),.bool (pOk 2 c f)]) w):=it_symbol c f w hc hf
theorem psym_3 (c f:Int) (w:World) (hc:1≤c∧c≤14) (hf:0≤f∧f≤18) :
  Calls Tryz.prog 297 #[.agg #[],.agg #[.int .i64 c,.int .i64 f]] w (Ret (.tuple #[.string (bs (pS 3 c f)),.bool (pOk 3 c f)]) w):=sp_symbol c f w hf
theorem psym_4 (c f:Int) (w:World) (hc:1≤c∧c≤14) (hf:0≤f∧f≤18) :
  Calls Tryz.prog 304 #[.agg #[],.agg #[.int .i64 c,.int .i64 f]] w (Ret (.tuple #[.string (bs (pS 4 c f)),.bool (pOk 4 c f)]) w):=ge_symbol c f w hc hf
end Go.Proofs.YtkgnmddakiagbaaGreatDoor
namespace Go.Proofs.YtkgnmddakiagbaaGreatDoor
open Go.RowKit
set_option maxHeartbeats 1600000
set_option maxRecDepth 100000
attribute [local go_sem] mk_bs bs_size bs_toList bs_append bs_extract
attribute [local simp] run_cut run_cut_to run_cut_from run_add_bs
theorem of_1 (w:World):Calls Tryz.prog 44 #[.int .u8 1] w fun e w'=>e=.returned (.tuple #[(.iface 187 (.agg #[])),.bool true])∧w=w':=by
 go_enter Tryz.func44,Tryz.ntmps44
 go_wp2
 go_ret2
 exact ⟨rfl,rfl⟩
end Go.Proofs.YtkgnmddakiagbaaGreatDoor
