/- Marks and cells of the program, in one system. -/
import Derived.Test.YthehkchjdkdbiaaGreatDoorTkKq
set_option maxHeartbeats 1600000
set_option maxRecDepth 100000
set_option linter.unusedVariables false
set_option linter.unusedSimpArgs false
namespace Go.Proofs.YthehkchjdkdbiaaGreatDoor
theorem alW {p:Prop}(h:p:=by
 go_enter Tryz.func339,Tryz.ntmps339
 go_wp2
 exact uY):p:=h
section
open Go.RowKit
attribute [local go_sem]wC bY gW gV dU
attribute [local simp]mV iK eF je
theorem azb (w:World):Calls Tryz.prog 50 #[.int .u8 3] w fun e w'=>e=.returned (.tuple #[(.iface 176 (.agg #[])),.bool true])∧w=w':=by
 exact XU
theorem ZA (n:Int)(w:World):Calls Tryz.prog 338 #[.agg #[],.int .i64 n] w (eG (.bool (if (3:Int)=3 then n != 8 else if (3:Int)=4 then n == 8 else true)) w):=by
 go_enter Tryz.func338,Tryz.ntmps338
 exact Dh
theorem atF (v:Int) (w:World) (hv:1≤v∧v≤7) :
  Calls Tryz.prog 110 #[(.iface 176 (.agg #[])),.agg #[.int .i64 v,.bool false,.bool true]] w (eG (.tuple #[.string (bs (tW v 2)),.bool (Aq 3 v 2)]) w):=by
 obtain ⟨hv1,hv7⟩:=hv
 have e1:tW v 2=cut [66,83,77,67,81,88,68] (v - 1) v++[51]:=by unfold tW;rw [if_neg (by omega)];rfl
 have e2:Aq 3 v 2=decide ((3:Int)≠4):=by unfold Aq;rw [if_neg (by omega)];rfl
 have H5:=Lib.hid (ZA 5)
 rw [e1,e2]
 have hb1:(v == 0)=false:=by simp;omega
 have g0:0≤v - 1:=by omega
 have g1:v - 1≤v:=by omega
 have gl:(cut [66,83,77,67,81,88,68] (v - 1) v).length+1≤9223372036854775807:=by
  exact ac8
 have w1:IntKind.i64.wrap (v - 1)=v - 1:=IntWalk.i64_in _ au
 clear e1 e2
 go_enter Tryz.func110,Tryz.ntmps110
 go_wp2_with fail
 go_region_held3 (fun w'=>w'.cell? ⟨w.heap.size,0,none⟩=some (.int .i64 v))
  (first|(simp [bc];done)|go_keep)
  ((go_at_call 338;refine (H5.out _).mono ?_;rintro e w' ⟨rfl,hb⟩;obtain ⟨bc,bf⟩:=Ov hb))
 go_wp2_with fail
 go_ret2
 exact eG.mk' (by simp) jT
theorem awx (v:Int) (i:Nat) (w:World) (hv:0≤v∧v≤7) (hi:i≤2) (hz:v=0→i=0) :
    Calls Tryz.prog 110 #[(.iface 176 (.agg #[])),.agg #[.int .i64 v,.bool (IE i),.bool (EH i)]] w (eG (.tuple #[.string (bs (tW v i)),.bool (Aq 3 v i)]) w):=by
  have h3:i=0∨i=1∨i=2:=by omega
  have h8:v=0∨v=1∨v=2∨v=3∨v=4∨v=5∨v=6∨v=7:=by omega
  have H6:=Lib.hid (ZA 6)
  have HV:=Lib.hid hv
  clear hi hv
  rcases h3 with rfl|rfl|rfl
  · rcases h8 with rfl|rfl|rfl|rfl|rfl|rfl|rfl|rfl
    all_goals
      clear hz
      simp only [IE,EH]
      go_enter Tryz.func110,Tryz.ntmps110
      go_wp2_with (go_at_call 338;refine (H6.out _).mono ?_;rintro e w' ⟨rfl,hb⟩)
      go_ret2
      exact eG.mk' rfl jT
  · exact ac5
  · exact atF v w ⟨by have:=HV.out;by_cases h0:v=0<;>omega,HV.out.2⟩
theorem aix (n:Int)(w:World)(h:0≤n∧n≤3) :
  Calls Tryz.prog 343 #[.agg #[],.int .i64 n] w (eG (.tuple #[.string (bs (rR 3 n)),.bool (okR 3 n)]) w):=by
 have h4:n=0∨n=1∨n=2∨n=3:=by omega
 clear h
 rcases h4 with rfl|rfl|rfl|rfl
 all_goals
  go_enter Tryz.func343,Tryz.ntmps343
  go_wp2
  go_ret2
  exact eG.mk' rfl jT
theorem aip (n:Int)(w:World)(h:0≤n∧n≤4) :
  Calls Tryz.prog 337 #[.agg #[],.int .i64 n] w (eG (.tuple #[.string (bs (rG 3 n)),.bool (sZ 3 n)]) w):=by
 have h4:n=0∨n=1∨n=2∨n=3∨n=4:=by omega
 clear h
 rcases h4 with rfl|rfl|rfl|rfl|rfl
 all_goals
  go_enter Tryz.func337,Tryz.ntmps337
  go_wp2
  go_ret2
  exact eG.mk' rfl jT
theorem aog (n L:Int)(w:World)(h:0≤n∧n≤15) :
  Calls Tryz.prog 339 #[.agg #[],.int .i64 n,.int .i64 L] w (eG (.tuple #[.string (bs (pH 3 n L)),.bool (qN 3 n L)]) w):=by
 obtain⟨hn0,hn1⟩:=h
 by_cases h0:n=0
 ·subst h0
  exact alW
 ·have hb:(n == 0)=false:=by simp;exact h0
  have e0:pH 3 n L=rH 3 n L:=if_neg h0
  have e1:qN 3 n L=!(rH 3 n L).isEmpty:=by unfold qN;rw [hb];rfl
  rw [e0,e1]
  have e2:rH 3 n L=[]:=rfl
  rw [e2]
  clear e0 e1 e2
  exact alW
end
end Go.Proofs.YthehkchjdkdbiaaGreatDoor
