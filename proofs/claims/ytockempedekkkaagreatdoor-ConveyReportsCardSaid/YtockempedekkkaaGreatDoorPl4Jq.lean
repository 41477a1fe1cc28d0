/- Symbol and Place of the program, in one system. -/
import Derived.Test.YtockempedekkkaaGreatDoorK1Jq
set_option maxHeartbeats 1600000
set_option maxRecDepth 100000
set_option linter.unusedVariables false
set_option linter.unusedSimpArgs false
namespace Go.Proofs.YtockempedekkkaaGreatDoor
open Go.RowKit
attribute [local go_sem]mk_bs bs_size bs_toList bs_append bs_extract
attribute [local simp]run_cut run_cut_to run_cut_from run_add_bs
theorem of_4 (w:World):Calls Tryz.prog 52 #[.int .u8 4] w fun e w'=>e=.returned (.tuple #[(.iface 169 (.agg #[])),.bool true])∧w=w':=by
 go_enter Tryz.func52,Tryz.ntmps52
 go_wp2
 go_ret2
 exact⟨rfl,rfl⟩
end Go.Proofs.YtockempedekkkaaGreatDoor
