/- Marks and cells of the program, in one system. -/
import Derived.Test.YthehkchjdkdbiaaGreatDoorChPKq
set_option maxHeartbeats 1600000
set_option maxRecDepth 100000
set_option linter.unusedVariables false
set_option linter.unusedSimpArgs false
namespace Go.Proofs.YthehkchjdkdbiaaGreatDoor
section
open Go.RowKit
attribute [local go_sem]wC bY gW gV dU
attribute [local simp]mV iK eF je
theorem ay9 (w:World):Calls Tryz.prog 50 #[.int .u8 1] w fun e w'=>e=.returned (.tuple #[(.iface 170 (.agg #[])),.bool true])∧w=w':=by
 exact XU
theorem aiv (n:Int)(w:World)(h:0≤n∧n≤3) :
  Calls Tryz.prog 320 #[.agg #[],.int .i64 n] w (eG (.tuple #[.string (bs (rR 1 n)),.bool (okR 1 n)]) w):=by
 have h4:n=0∨n=1∨n=2∨n=3:=by omega
 clear h
 rcases h4 with rfl|rfl|rfl|rfl
 all_goals
  go_enter Tryz.func320,Tryz.ntmps320
  go_wp2
  go_ret2
  exact eG.mk' rfl jT
theorem ain (n:Int)(w:World)(h:0≤n∧n≤4) :
  Calls Tryz.prog 314 #[.agg #[],.int .i64 n] w (eG (.tuple #[.string (bs (rG 1 n)),.bool (sZ 1 n)]) w):=by
 have h4:n=0∨n=1∨n=2∨n=3∨n=4:=by omega
 clear h
 rcases h4 with rfl|rfl|rfl|rfl|rfl
 all_goals
  go_enter Tryz.func314,Tryz.ntmps314
  go_wp2
  go_ret2
  exact eG.mk' rfl jT
theorem aoe (n L:Int)(w:World)(h:0≤n∧n≤15) :
  Calls Tryz.prog 316 #[.agg #[],.int .i64 n,.int .i64 L] w (eG (.tuple #[.string (bs (pH 1 n L)),.bool (qN 1 n L)]) w):=by
 obtain⟨hn0,hn1⟩:=h
 by_cases h0:n=0
 ·subst h0
  go_enter Tryz.func316,Tryz.ntmps316
  go_wp2
  exact uY
 ·have hb:(n == 0)=false:=by simp;exact h0
  have e0:pH 1 n L=rH 1 n L:=if_neg h0
  have e1:qN 1 n L=!(rH 1 n L).isEmpty:=by unfold qN;rw [hb];rfl
  rw [e0,e1]
  have e2:rH 1 n L=95::mW n.toNat:=if_pos rfl
  have hl:([95]:List UInt8).length+(mW n.toNat).length≤9223372036854775807:=by have:=Jr n.toNat;simp;omega
  have hl':1+(mW n.toNat).length≤9223372036854775807:=by have:=Jr n.toNat;omega
  rw [e2]
  clear e0 e1 e2
  go_enter Tryz.func316,Tryz.ntmps316
  go_wp2_with (go_at_call 108;refine (DC _ _ hn0 (by omega)).mono ?_;rintro e w'⟨rfl,hw⟩;rw [hw];clear hw)
  exact uY
end
end Go.Proofs.YthehkchjdkdbiaaGreatDoor
