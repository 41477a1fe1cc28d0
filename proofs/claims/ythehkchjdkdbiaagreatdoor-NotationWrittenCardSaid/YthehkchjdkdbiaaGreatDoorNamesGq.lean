/- The names of the systems: program and reference; the walk of NotationNames. -/
import Derived.Test.YthehkchjdkdbiaaGreatDoorGYGq
set_option maxHeartbeats 1600000
set_option maxRecDepth 100000
set_option linter.unusedVariables false
set_option linter.unusedSimpArgs false
namespace Go.Proofs.YthehkchjdkdbiaaGreatDoor
open Go.RowKit
attribute [local go_sem]mk_bs bs_size bs_toList bs_append bs_extract
def nm1:List UInt8:=[102,114,101,110,99,104]
def nm2:List UInt8:=[105,116,97,108,105,97,110]
def nm3:List UInt8:=[115,112,97,110,105,115,104]
def nm4:List UInt8:=[103,101,114,109,97,110]
def psV(l:List UInt8):Value :=
 if(nm1 == l)=true then .tuple #[.int .u8 1,.int .i64 0]else if(nm2 == l)=true then .tuple #[.int .u8 2,.int .i64 0]
 else if(nm3 == l)=true then .tuple #[.int .u8 3,.int .i64 0]else if(nm4 == l)=true then .tuple #[.int .u8 4,.int .i64 0]else .tuple #[.int .u8 0,.int .i64 4]
theorem pparseSystem_any (l:List UInt8)(w:World):Calls Tryz.prog 90 #[.string (bs l)] w (Ret (psV l) w):=by
 unfold psV nm1 nm2 nm3 nm4
 by_cases h1:(([102,114,101,110,99,104]:List UInt8) == l)=true
 ·rw [if_pos h1]
  go_enter Tryz.func90,Tryz.ntmps90
  go_wp2
  go_rounds 5
  go_ret2
  exact Ret.mk' rfl zqb
 ·rw [if_neg h1]
  have g1:(([102,114,101,110,99,104]:List UInt8) == l)=false:=by simpa using h1
  clear h1
  by_cases h2:(([105,116,97,108,105,97,110]:List UInt8) == l)=true
  ·rw [if_pos h2]
   go_enter Tryz.func90,Tryz.ntmps90
   go_wp2
   go_rounds 5
   go_ret2
   exact Ret.mk' rfl zqb
  ·rw [if_neg h2]
   have g2:(([105,116,97,108,105,97,110]:List UInt8) == l)=false:=by simpa using h2
   clear h2
   by_cases h3:(([115,112,97,110,105,115,104]:List UInt8) == l)=true
   ·rw [if_pos h3]
    go_enter Tryz.func90,Tryz.ntmps90
    go_wp2
    go_rounds 5
    go_ret2
    exact Ret.mk' rfl zqb
   ·rw [if_neg h3]
    have g3:(([115,112,97,110,105,115,104]:List UInt8) == l)=false:=by simpa using h3
    clear h3
    by_cases h4:(([103,101,114,109,97,110]:List UInt8) == l)=true
    ·rw [if_pos h4]
     go_enter Tryz.func90,Tryz.ntmps90
     go_wp2
     go_rounds 5
     go_ret2
     exact Ret.mk' rfl zqb
    ·rw [if_neg h4]
     have g4:(([103,101,114,109,97,110]:List UInt8) == l)=false:=by simpa using h4
     clear h4
     go_enter Tryz.func90,Tryz.ntmps90
     go_wp2
     go_rounds 5
     go_ret2
     exact Ret.mk' rfl zqb
end Go.Proofs.YthehkchjdkdbiaaGreatDoor
