/- has and the time words of a system: the program. -/
import Derived.Test.YthehkchjdkdbiaaGreatDoorNr4Gq
import Derived.Test.YthehkchjdkdbiaaGreatDoorPl1Gq
set_option maxHeartbeats 1600000
set_option maxRecDepth 100000
set_option linter.unusedVariables false
set_option linter.unusedSimpArgs false
namespace Go.Proofs.YthehkchjdkdbiaaGreatDoor
section
open Go.RowKit
attribute [local go_sem]mk_bs bs_size bs_toList bs_append bs_extract
attribute [local simp]run_cut run_cut_to run_cut_from run_add_bs
theorem ticks_bad (v:Int)(d t:Bool)(w:World)(h:v < 1∨7 < v∨(d && t)=true):Calls Tryz.prog 172 #[.agg #[.int .i64 v,.bool d,.bool t]] w (Ret (.int .i64 0) w):=by
 by_cases h1:v < 1
 ·clear h
  go_enter Tryz.func172,Tryz.ntmps172
  go_wp2
  go_ret
  exact Ret.mk' rfl zqb
 ·by_cases h2:7 < v
  ·clear h
   go_enter Tryz.func172,Tryz.ntmps172
   go_wp2
   go_ret
   exact Ret.mk' rfl zqb
  ·have h3:d=true∧t=true:=by
    rcases h with h|h|h
    ·exact absurd h h1
    ·exact absurd h h2
    ·simpa using h
   obtain⟨rfl,rfl⟩:=h3
   clear h
   go_enter Tryz.func172,Tryz.ntmps172
   go_wp2
   go_ret
   exact Ret.mk' rfl zqb
theorem ticks_good (v:Int)(d t:Bool)(w:World)(hv:1≤v∧v≤7)(h:(d && t)=false):Calls Tryz.prog 172 #[.agg #[.int .i64 v,.bool d,.bool t]] w (Ret (.int .i64 (tkV v d t)) w):=by
  have h7:v=1∨v=2∨v=3∨v=4∨v=5∨v=6∨v=7:=by omega
  clear hv
  cases d<;>cases t
  all_goals first
    | (exfalso;revert h;decide)
    | (clear h
       rcases h7 with rfl|rfl|rfl|rfl|rfl|rfl|rfl
       all_goals
         go_enter Tryz.func172,Tryz.ntmps172
         go_wp2
         go_ret
         exact Ret.mk' rfl zqb)
theorem ticks_any (v:Int) (d t:Bool) (w:World):Calls Tryz.prog 172 #[.agg #[.int .i64 v,.bool d,.bool t]] w (Ret (.int .i64 (tkV v d t)) w):=by
 by_cases h:v<1∨7<v∨(d && t)=true
 ·have e:tkV v d t=0:=if_pos h
  rw [e];exact ticks_bad v d t w h
 ·exact ticks_good v d t w zqo (by cases hd:(d && t) with|false=>rfl|true=>exact absurd (.inr (.inr hd)) h)
end
section
open Go.RowKit
attribute [local go_sem]mk_bs bs_size bs_toList bs_append bs_extract
attribute [local simp]run_cut run_cut_to run_cut_from run_add_bs
theorem phas_1 (n:Int)(w:World):Calls Tryz.prog 315 #[.agg #[],.int .i64 n] w (Ret (.bool (if (1:Int)=3 then n != 8 else if (1:Int)=4 then n == 8 else true)) w):=by
 go_enter Tryz.func315,Tryz.ntmps315
 go_wp2
 go_ret
 exact Ret.mk' rfl zqb
theorem ptw3_1 (v:Int) (w:World) (hv:1≤v∧v≤7) :
  Calls Tryz.prog 110 #[(.iface 170 (.agg #[])),.agg #[.int .i64 v,.bool false,.bool true]] w (Ret (.tuple #[.string (bs (tW v 2)),.bool (tOk 1 v 2)]) w):=by
 obtain ⟨hv1,hv7⟩:=hv
 have e1:tW v 2=cut [66,83,77,67,81,88,68] (v - 1) v++[51]:=by unfold tW;rw [if_neg (by omega)];rfl
 have e2:tOk 1 v 2=decide ((1:Int)≠4):=by unfold tOk;rw [if_neg (by omega)];rfl
 have H5:=Lib.hid (phas_1 5)
 rw [e1,e2]
 have hb1:(v == 0)=false:=by simp;omega
 have g0:0≤v - 1:=by omega
 have g1:v - 1≤v:=by omega
 have gl:(cut [66,83,77,67,81,88,68] (v - 1) v).length+1≤9223372036854775807:=by
  have:=cut_length [66,83,77,67,81,88,68] (v - 1) v
  simp at this;omega
 have w1:IntKind.i64.wrap (v - 1)=v - 1:=IntWalk.i64_in _ zqo
 clear e1 e2
 go_enter Tryz.func110,Tryz.ntmps110
 go_wp2_with fail
 go_region_held3 (fun w'=>w'.cell? ⟨w.heap.size,0,none⟩=some (.int .i64 v))
  (first|(simp [bc];done)|go_keep)
  ((go_at_call 315;refine (H5.out _).mono ?_;rintro e w' ⟨rfl,hb⟩;obtain ⟨bc,bf⟩:=bcell hb))
 go_wp2_with fail
 go_ret2
 exact Ret.mk' (by simp) zqb
theorem ptw_1 (v:Int) (i:Nat) (w:World) (hv:0≤v∧v≤7) (hi:i≤2) (hz:v=0→i=0) :
    Calls Tryz.prog 110 #[(.iface 170 (.agg #[])),.agg #[.int .i64 v,.bool (sgD i),.bool (sgT i)]] w (Ret (.tuple #[.string (bs (tW v i)),.bool (tOk 1 v i)]) w):=by
  have h3:i=0∨i=1∨i=2:=by omega
  have h8:v=0∨v=1∨v=2∨v=3∨v=4∨v=5∨v=6∨v=7:=by omega
  have H6:=Lib.hid (phas_1 6)
  have HV:=Lib.hid hv
  clear hi hv
  rcases h3 with rfl|rfl|rfl
  · rcases h8 with rfl|rfl|rfl|rfl|rfl|rfl|rfl|rfl
    all_goals
      clear hz
      simp only [sgD,sgT]
      go_enter Tryz.func110,Tryz.ntmps110
      go_wp2_with (go_at_call 315;refine (H6.out _).mono ?_;rintro e w' ⟨rfl,hb⟩)
      go_ret2
      exact Ret.mk' rfl zqb
  · rcases h8 with rfl|rfl|rfl|rfl|rfl|rfl|rfl|rfl
    all_goals first
      | (exfalso;revert hz;decide)
      | (clear hz
         simp only [sgD,sgT]
         go_enter Tryz.func110,Tryz.ntmps110
         go_wp2_with fail
         go_ret2
         exact Ret.mk' rfl zqb)
  · exact ptw3_1 v w ⟨by have:=HV.out;by_cases h0:v=0<;>omega,HV.out.2⟩
end
end Go.Proofs.YthehkchjdkdbiaaGreatDoor
