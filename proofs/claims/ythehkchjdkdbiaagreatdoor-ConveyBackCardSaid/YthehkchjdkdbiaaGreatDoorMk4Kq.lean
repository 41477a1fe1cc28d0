/- Marks and cells of the program, in one system. -/
import Derived.Test.YthehkchjdkdbiaaGreatDoorTkKq
set_option maxHeartbeats 1600000
set_option maxRecDepth 100000
set_option linter.unusedVariables false
set_option linter.unusedSimpArgs false
namespace Go.Proofs.YthehkchjdkdbiaaGreatDoor
section
open Go.RowKit
attribute [local go_sem]wC bY gW gV dU
attribute [local simp]mV iK eF je
theorem azc (w:World):Calls Tryz.prog 50 #[.int .u8 4] w fun e w'=>e=.returned (.tuple #[(.iface 178 (.agg #[])),.bool true])∧w=w':=by
 exact XU
theorem ZB (n:Int)(w:World):Calls Tryz.prog 346 #[.agg #[],.int .i64 n] w (eG (.bool (if (4:Int)=3 then n != 8 else if (4:Int)=4 then n == 8 else true)) w):=by
 go_enter Tryz.func346,Tryz.ntmps346
 exact Dh
theorem atG (v:Int) (w:World) (hv:1≤v∧v≤7) :
  Calls Tryz.prog 110 #[(.iface 178 (.agg #[])),.agg #[.int .i64 v,.bool false,.bool true]] w (eG (.tuple #[.string (bs (tW v 2)),.bool (Aq 4 v 2)]) w):=by
 obtain ⟨hv1,hv7⟩:=hv
 have e1:tW v 2=cut [66,83,77,67,81,88,68] (v - 1) v++[51]:=by unfold tW;rw [if_neg (by omega)];rfl
 have e2:Aq 4 v 2=decide ((4:Int)≠4):=by unfold Aq;rw [if_neg (by omega)];rfl
 have H5:=Lib.hid (ZB 5)
 rw [e1,e2]
 have hb1:(v == 0)=false:=by simp;omega
 have g0:0≤v - 1:=by omega
 have g1:v - 1≤v:=by omega
 have gl:(cut [66,83,77,67,81,88,68] (v - 1) v).length+1≤9223372036854775807:=by
  exact ac8
 have w1:IntKind.i64.wrap (v - 1)=v - 1:=IntWalk.i64_in _ au
 clear e1 e2
 go_enter Tryz.func110,Tryz.ntmps110
 go_wp2_with fail
 go_region_held3 (fun w'=>w'.cell? ⟨w.heap.size,0,none⟩=some (.int .i64 v))
  (first|(simp [bc];done)|go_keep)
  ((go_at_call 346;refine (H5.out _).mono ?_;rintro e w' ⟨rfl,hb⟩;obtain ⟨bc,bf⟩:=Ov hb))
 go_wp2_with fail
 go_ret2
 exact eG.mk' (by simp) jT
theorem awy (v:Int) (i:Nat) (w:World) (hv:0≤v∧v≤7) (hi:i≤2) (hz:v=0→i=0) :
    Calls Tryz.prog 110 #[(.iface 178 (.agg #[])),.agg #[.int .i64 v,.bool (IE i),.bool (EH i)]] w (eG (.tuple #[.string (bs (tW v i)),.bool (Aq 4 v i)]) w):=by
  have h3:i=0∨i=1∨i=2:=by omega
  have h8:v=0∨v=1∨v=2∨v=3∨v=4∨v=5∨v=6∨v=7:=by omega
  have H6:=Lib.hid (ZB 6)
  have HV:=Lib.hid hv
  clear hi hv
  rcases h3 with rfl|rfl|rfl
  · rcases h8 with rfl|rfl|rfl|rfl|rfl|rfl|rfl|rfl
    all_goals
      clear hz
      simp only [IE,EH]
      go_enter Tryz.func110,Tryz.ntmps110
      go_wp2_with (go_at_call 346;refine (H6.out _).mono ?_;rintro e w' ⟨rfl,hb⟩)
      go_ret2
      exact eG.mk' rfl jT
  · exact ac5
  · exact atG v w ⟨by have:=HV.out;by_cases h0:v=0<;>omega,HV.out.2⟩
theorem aiy (n:Int)(w:World)(h:0≤n∧n≤3) :
  Calls Tryz.prog 350 #[.agg #[],.int .i64 n] w (eG (.tuple #[.string (bs (rR 4 n)),.bool (okR 4 n)]) w):=by
 have h4:n=0∨n=1∨n=2∨n=3:=by omega
 clear h
 rcases h4 with rfl|rfl|rfl|rfl
 all_goals
  go_enter Tryz.func350,Tryz.ntmps350
  go_wp2
  go_ret2
  exact eG.mk' rfl jT
theorem aiq (n:Int)(w:World)(h:0≤n∧n≤4) :
  Calls Tryz.prog 345 #[.agg #[],.int .i64 n] w (eG (.tuple #[.string (bs (rG 4 n)),.bool (sZ 4 n)]) w):=by
 have h4:n=0∨n=1∨n=2∨n=3∨n=4:=by omega
 clear h
 rcases h4 with rfl|rfl|rfl|rfl|rfl
 all_goals
  go_enter Tryz.func345,Tryz.ntmps345
  go_wp2
  go_ret2
  exact eG.mk' rfl jT
theorem aoh (n L:Int) (w:World) (h:0≤n∧n≤15) :
  Calls Tryz.prog 329 #[.agg #[],.int .i64 n,.int .i64 L] w (eG (.tuple #[.string (bs (pH 4 n L)),.bool (qN 4 n L)]) w):=by
 obtain ⟨hn0,hn1⟩:=h
 by_cases h0:n=0
 ·exact alS
 ·have hb:(n == 0)=false:=by simp;exact h0
  have e0:pH 4 n L=rH 4 n L:=if_neg h0
  have e1:qN 4 n L=!(rH 4 n L).isEmpty:=by unfold qN;rw [hb];rfl
  rw [e0,e1]
  by_cases hL:n=L
  ·have e2:rH 4 n L=[42]:=by unfold rH;rw [if_neg (by decide),if_pos ⟨by decide,hL⟩]
   have hbL:(n == L)=true:=by simpa using hL
   exact aaQ
  ·have e2:rH 4 n L=[]:=by unfold rH;rw [if_neg (by decide),if_neg (fun h=>hL h.2)]
   exact al2
end
end Go.Proofs.YthehkchjdkdbiaaGreatDoor
