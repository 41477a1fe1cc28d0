/- has and the time words of a system: the program. -/
import Derived.Test.YthehkchjdkdbiaaGreatDoorTkKq
import Derived.Test.YthehkchjdkdbiaaGreatDoorMk2Kq
set_option maxHeartbeats 1600000
set_option maxRecDepth 100000
set_option linter.unusedVariables false
set_option linter.unusedSimpArgs false
namespace Go.Proofs.YthehkchjdkdbiaaGreatDoor
open Go.RowKit
attribute [local go_sem]wC bY gW gV dU
attribute [local simp]mV iK eF je
theorem Zz (n:Int)(w:World):Calls Tryz.prog 331 #[.agg #[],.int .i64 n] w (eG (.bool (if (2:Int)=3 then n != 8 else if (2:Int)=4 then n == 8 else true)) w):=by
 go_enter Tryz.func331,Tryz.ntmps331
 exact Dh
theorem atE (v:Int) (w:World) (hv:1≤v∧v≤7) :
  Calls Tryz.prog 110 #[(.iface 174 (.agg #[])),.agg #[.int .i64 v,.bool false,.bool true]] w (eG (.tuple #[.string (bs (tW v 2)),.bool (Aq 2 v 2)]) w):=by
 obtain ⟨hv1,hv7⟩:=hv
 have e1:tW v 2=cut [66,83,77,67,81,88,68] (v - 1) v++[51]:=by unfold tW;rw [if_neg (by omega)];rfl
 have e2:Aq 2 v 2=decide ((2:Int)≠4):=by unfold Aq;rw [if_neg (by omega)];rfl
 have H5:=Lib.hid (Zz 5)
 rw [e1,e2]
 have hb1:(v == 0)=false:=by simp;omega
 have g0:0≤v - 1:=by omega
 have g1:v - 1≤v:=by omega
 have gl:(cut [66,83,77,67,81,88,68] (v - 1) v).length+1≤9223372036854775807:=by
  exact ac8
 have w1:IntKind.i64.wrap (v - 1)=v - 1:=IntWalk.i64_in _ au
 clear e1 e2
 go_enter Tryz.func110,Tryz.ntmps110
 go_wp2_with fail
 go_region_held3 (fun w'=>w'.cell? ⟨w.heap.size,0,none⟩=some (.int .i64 v))
  (first|(simp [bc];done)|go_keep)
  ((go_at_call 331;refine (H5.out _).mono ?_;rintro e w' ⟨rfl,hb⟩;obtain ⟨bc,bf⟩:=Ov hb))
 go_wp2_with fail
 go_ret2
 exact eG.mk' (by simp) jT
theorem aww (v:Int) (i:Nat) (w:World) (hv:0≤v∧v≤7) (hi:i≤2) (hz:v=0→i=0) :
    Calls Tryz.prog 110 #[(.iface 174 (.agg #[])),.agg #[.int .i64 v,.bool (IE i),.bool (EH i)]] w (eG (.tuple #[.string (bs (tW v i)),.bool (Aq 2 v i)]) w):=by
  have h3:i=0∨i=1∨i=2:=by omega
  have h8:v=0∨v=1∨v=2∨v=3∨v=4∨v=5∨v=6∨v=7:=by omega
  have H6:=Lib.hid (Zz 6)
  have HV:=Lib.hid hv
  clear hi hv
  rcases h3 with rfl|rfl|rfl
  · rcases h8 with rfl|rfl|rfl|rfl|rfl|rfl|rfl|rfl
    all_goals
      clear hz
      simp only [IE,EH]
      go_enter Tryz.func110,Tryz.ntmps110
      go_wp2_with (go_at_call 331;refine (H6.out _).mono ?_;rintro e w' ⟨rfl,hb⟩)
      go_ret2
      exact eG.mk' rfl jT
  · exact ac5
  · exact atE v w ⟨by have:=HV.out;by_cases h0:v=0<;>omega,HV.out.2⟩
end Go.Proofs.YthehkchjdkdbiaaGreatDoor
