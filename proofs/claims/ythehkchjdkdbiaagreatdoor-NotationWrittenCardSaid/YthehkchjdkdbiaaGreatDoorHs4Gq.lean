/- has and the time words of a system: the program. -/
import Derived.Test.YthehkchjdkdbiaaGreatDoorHs1Gq
import Derived.Test.YthehkchjdkdbiaaGreatDoorMk4Gq
set_option maxHeartbeats 1600000
set_option maxRecDepth 100000
set_option linter.unusedVariables false
set_option linter.unusedSimpArgs false
namespace Go.Proofs.YthehkchjdkdbiaaGreatDoor
open Go.RowKit
attribute [local go_sem]mk_bs bs_size bs_toList bs_append bs_extract
attribute [local simp]run_cut run_cut_to run_cut_from run_add_bs
theorem phas_4 (n:Int)(w:World):Calls Tryz.prog 346 #[.agg #[],.int .i64 n] w (Ret (.bool (if (4:Int)=3 then n != 8 else if (4:Int)=4 then n == 8 else true)) w):=by
 go_enter Tryz.func346,Tryz.ntmps346
 go_wp2
 go_ret
 exact Ret.mk' rfl zqb
theorem ptw3_4 (v:Int) (w:World) (hv:1≤v∧v≤7) :
  Calls Tryz.prog 110 #[(.iface 178 (.agg #[])),.agg #[.int .i64 v,.bool false,.bool true]] w (Ret (.tuple #[.string (bs (tW v 2)),.bool (tOk 4 v 2)]) w):=by
 obtain ⟨hv1,hv7⟩:=hv
 have e1:tW v 2=cut [66,83,77,67,81,88,68] (v - 1) v++[51]:=by unfold tW;rw [if_neg (by omega)];rfl
 have e2:tOk 4 v 2=decide ((4:Int)≠4):=by unfold tOk;rw [if_neg (by omega)];rfl
 have H5:=Lib.hid (phas_4 5)
 rw [e1,e2]
 have hb1:(v == 0)=false:=by simp;omega
 have g0:0≤v - 1:=by omega
 have g1:v - 1≤v:=by omega
 have gl:(cut [66,83,77,67,81,88,68] (v - 1) v).length+1≤9223372036854775807:=by
  have:=cut_length [66,83,77,67,81,88,68] (v - 1) v
  simp at this;omega
 have w1:IntKind.i64.wrap (v - 1)=v - 1:=IntWalk.i64_in _ zqo
 clear e1 e2
 go_enter Tryz.func110,Tryz.ntmps110
 go_wp2_with fail
 go_region_held3 (fun w'=>w'.cell? ⟨w.heap.size,0,none⟩=some (.int .i64 v))
  (first|(simp [bc];done)|go_keep)
  ((go_at_call 346;refine (H5.out _).mono ?_;rintro e w' ⟨rfl,hb⟩;obtain ⟨bc,bf⟩:=bcell hb))
 go_wp2_with fail
 go_ret2
 exact Ret.mk' (by simp) zqb
theorem ptw_4 (v:Int) (i:Nat) (w:World) (hv:0≤v∧v≤7) (hi:i≤2) (hz:v=0→i=0) :
    Calls Tryz.prog 110 #[(.iface 178 (.agg #[])),.agg #[.int .i64 v,.bool (sgD i),.bool (sgT i)]] w (Ret (.tuple #[.string (bs (tW v i)),.bool (tOk 4 v i)]) w):=by
  have h3:i=0∨i=1∨i=2:=by omega
  have h8:v=0∨v=1∨v=2∨v=3∨v=4∨v=5∨v=6∨v=7:=by omega
  have H6:=Lib.hid (phas_4 6)
  have HV:=Lib.hid hv
  clear hi hv
  rcases h3 with rfl|rfl|rfl
  · rcases h8 with rfl|rfl|rfl|rfl|rfl|rfl|rfl|rfl
    all_goals
      clear hz
      simp only [sgD,sgT]
      go_enter Tryz.func110,Tryz.ntmps110
      go_wp2_with (go_at_call 346;refine (H6.out _).mono ?_;rintro e w' ⟨rfl,hb⟩)
      go_ret2
      exact Ret.mk' rfl zqb
  · rcases h8 with rfl|rfl|rfl|rfl|rfl|rfl|rfl|rfl
    all_goals first
      | (exfalso;revert hz;decide)
      | (clear hz
         simp only [sgD,sgT]
         go_enter Tryz.func110,Tryz.ntmps110
         go_wp2_with fail
         go_ret2
         exact Ret.mk' rfl zqb)
  · exact ptw3_4 v w ⟨by have:=HV.out;by_cases h0:v=0<;>omega,HV.out.2⟩
end Go.Proofs.YthehkchjdkdbiaaGreatDoor
