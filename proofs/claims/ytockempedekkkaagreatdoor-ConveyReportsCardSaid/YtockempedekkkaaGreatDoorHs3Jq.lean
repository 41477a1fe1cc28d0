/- has and the time words of a system: the program. -/
import Derived.Test.YtockempedekkkaaGreatDoorK1Jq
set_option maxHeartbeats 1600000
set_option maxRecDepth 100000
set_option linter.unusedVariables false
set_option linter.unusedSimpArgs false
namespace Go.Proofs.YtockempedekkkaaGreatDoor
section
open Go.RowKit
attribute [local go_sem]mk_bs bs_size bs_toList bs_append bs_extract
attribute [local simp]run_cut run_cut_to run_cut_from run_add_bs
theorem ticks_bad (v:Int)(d t:Bool)(w:World)(h:v < 1∨7 < v∨(d && t)=true):Calls Tryz.prog 87 #[.agg #[.int .i64 v,.bool d,.bool t]] w (Ret (.int .i64 0) w):=by
 by_cases h1:v < 1
 ·clear h
  go_enter Tryz.func87,Tryz.ntmps87
  go_wp2
  go_ret
  exact Ret.mk' rfl zqb
 ·by_cases h2:7 < v
  ·clear h
   go_enter Tryz.func87,Tryz.ntmps87
   go_wp2
   go_ret
   exact Ret.mk' rfl zqb
  ·have h3:d=true∧t=true:=by
    rcases h with h|h|h
    ·exact absurd h h1
    ·exact absurd h h2
    ·simpa using h
   obtain⟨rfl,rfl⟩:=h3
   clear h
   go_enter Tryz.func87,Tryz.ntmps87
   go_wp2
   go_ret
   exact Ret.mk' rfl zqb
theorem ticks_good (v:Int)(d t:Bool)(w:World)(hv:1≤v∧v≤7)(h:(d && t)=false):Calls Tryz.prog 87 #[.agg #[.int .i64 v,.bool d,.bool t]] w (Ret (.int .i64 (tkV v d t)) w):=by
  have h7:v=1∨v=2∨v=3∨v=4∨v=5∨v=6∨v=7:=by omega
  clear hv
  cases d<;>cases t
  all_goals first
    | (exfalso;revert h;decide)
    | (clear h
       rcases h7 with rfl|rfl|rfl|rfl|rfl|rfl|rfl
       all_goals
         go_enter Tryz.func87,Tryz.ntmps87
         go_wp2
         go_ret
         exact Ret.mk' rfl zqb)
theorem ticks_any (v:Int) (d t:Bool) (w:World):Calls Tryz.prog 87 #[.agg #[.int .i64 v,.bool d,.bool t]] w (Ret (.int .i64 (tkV v d t)) w):=by
 by_cases h:v<1∨7<v∨(d && t)=true
 ·have e:tkV v d t=0:=if_pos h
  rw [e];exact ticks_bad v d t w h
 ·exact ticks_good v d t w zqo (by cases hd:(d && t) with|false=>rfl|true=>exact absurd (.inr (.inr hd)) h)
end
section
open Go.RowKit
attribute [local go_sem]mk_bs bs_size bs_toList bs_append bs_extract
attribute [local simp]run_cut run_cut_to run_cut_from run_add_bs
theorem of_3 (w:World):Calls Tryz.prog 52 #[.int .u8 3] w fun e w'=>e=.returned (.tuple #[(.iface 167 (.agg #[])),.bool true])∧w=w':=by
 go_enter Tryz.func52,Tryz.ntmps52
 go_wp2
 go_ret2
 exact⟨rfl,rfl⟩
end
section
open Go.RowKit
attribute [local go_sem]mk_bs bs_size bs_toList bs_append bs_extract
attribute [local simp]run_cut run_cut_to run_cut_from run_add_bs
theorem phas_3 (n:Int)(w:World):Calls Tryz.prog 195 #[.agg #[],.int .i64 n] w (Ret (.bool (if (3:Int)=3 then n != 8 else if (3:Int)=4 then n == 8 else true)) w):=by
 go_enter Tryz.func195,Tryz.ntmps195
 go_wp2
 go_ret
 exact Ret.mk' rfl zqb
end
end Go.Proofs.YtockempedekkkaaGreatDoor
