/- Marks and cells of the program, in one system. -/
import Derived.Test.YthehkchjdkdbiaaGreatDoorChPKq
set_option maxHeartbeats 1600000
set_option maxRecDepth 100000
set_option linter.unusedVariables false
set_option linter.unusedSimpArgs false
namespace Go.Proofs.YthehkchjdkdbiaaGreatDoor
section
open Go.RowKit
attribute [local go_sem]wC bY gW gV dU
attribute [local simp]mV iK eF je
theorem aza (w:World):Calls Tryz.prog 50 #[.int .u8 2] w fun e w'=>e=.returned (.tuple #[(.iface 174 (.agg #[])),.bool true])∧w=w':=by
 exact XU
theorem aiw (n:Int)(w:World)(h:0≤n∧n≤3) :
  Calls Tryz.prog 335 #[.agg #[],.int .i64 n] w (eG (.tuple #[.string (bs (rR 2 n)),.bool (okR 2 n)]) w):=by
 have h4:n=0∨n=1∨n=2∨n=3:=by omega
 clear h
 rcases h4 with rfl|rfl|rfl|rfl
 all_goals
  go_enter Tryz.func335,Tryz.ntmps335
  go_wp2
  go_ret2
  exact eG.mk' rfl jT
theorem aio (n:Int)(w:World)(h:0≤n∧n≤4) :
  Calls Tryz.prog 330 #[.agg #[],.int .i64 n] w (eG (.tuple #[.string (bs (rG 2 n)),.bool (sZ 2 n)]) w):=by
 have h4:n=0∨n=1∨n=2∨n=3∨n=4:=by omega
 clear h
 rcases h4 with rfl|rfl|rfl|rfl|rfl
 all_goals
  go_enter Tryz.func330,Tryz.ntmps330
  go_wp2
  go_ret2
  exact eG.mk' rfl jT
theorem aof (n L:Int) (w:World) (h:0≤n∧n≤15) :
  Calls Tryz.prog 329 #[.agg #[],.int .i64 n,.int .i64 L] w (eG (.tuple #[.string (bs (pH 2 n L)),.bool (qN 2 n L)]) w):=by
 obtain ⟨hn0,hn1⟩:=h
 by_cases h0:n=0
 ·exact alS
 ·have hb:(n == 0)=false:=by simp;exact h0
  have e0:pH 2 n L=rH 2 n L:=if_neg h0
  have e1:qN 2 n L=!(rH 2 n L).isEmpty:=by unfold qN;rw [hb];rfl
  rw [e0,e1]
  by_cases hL:n=L
  ·have e2:rH 2 n L=[42]:=by unfold rH;rw [if_neg (by decide),if_pos ⟨by decide,hL⟩]
   have hbL:(n == L)=true:=by simpa using hL
   exact aaQ
  ·have e2:rH 2 n L=[]:=by unfold rH;rw [if_neg (by decide),if_neg (fun h=>hL h.2)]
   exact al2
end
end Go.Proofs.YthehkchjdkdbiaaGreatDoor
