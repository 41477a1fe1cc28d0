/- Time words of the program: signs. -/
import Derived.Test.YthehkchjdkdbiaaGreatDoorChPKq
set_option maxHeartbeats 1600000
set_option maxRecDepth 100000
set_option linter.unusedVariables false
set_option linter.unusedSimpArgs false
namespace Go.Proofs.YthehkchjdkdbiaaGreatDoor
open Go.RowKit
attribute [local go_sem]wC bY gW gV dU
attribute [local simp]mV iK eF je
theorem amd {p:Prop}(h:p:=by
 clear h
 go_enter Tryz.func172,Tryz.ntmps172
 go_wp2
 go_ret
 exact eG.mk' rfl jT):p:=h
theorem ac8 {p:Prop}(h:p:=by
 have:=xA [66,83,77,67,81,88,68] (v - 1) v
 simp at this;omega):p:=h
theorem ac5 {p:Prop}(h:p:=by
 rcases h8 with rfl|rfl|rfl|rfl|rfl|rfl|rfl|rfl
 all_goals first
   | (exfalso;revert hz;decide)
   | (clear hz
      simp only [IE,EH]
      go_enter Tryz.func110,Tryz.ntmps110
      go_wp2_with fail
      go_ret2
      exact eG.mk' rfl jT)):p:=h
theorem afz (v:Int)(d t:Bool)(w:World)(h:v < 1∨7 < v∨(d && t)=true):Calls Tryz.prog 172 #[.agg #[.int .i64 v,.bool d,.bool t]] w (eG (.int .i64 0) w):=by
 by_cases h1:v < 1
 ·exact amd
 ·by_cases h2:7 < v
  ·exact amd
  ·have h3:d=true∧t=true:=by
    rcases h with h|h|h
    ·exact absurd h h1
    ·exact absurd h h2
    ·simpa using h
   obtain⟨rfl,rfl⟩:=h3
   exact amd
theorem aai (v:Int)(d t:Bool)(w:World)(hv:1≤v∧v≤7)(h:(d && t)=false):Calls Tryz.prog 172 #[.agg #[.int .i64 v,.bool d,.bool t]] w (eG (.int .i64 (Dl v d t)) w):=by
  have h7:v=1∨v=2∨v=3∨v=4∨v=5∨v=6∨v=7:=by omega
  clear hv
  cases d<;>cases t
  all_goals first
    | (exfalso;revert h;decide)
    | (clear h
       rcases h7 with rfl|rfl|rfl|rfl|rfl|rfl|rfl
       all_goals
         go_enter Tryz.func172,Tryz.ntmps172
         go_wp2
         go_ret
         exact eG.mk' rfl jT)
theorem Qh (v:Int) (d t:Bool) (w:World):Calls Tryz.prog 172 #[.agg #[.int .i64 v,.bool d,.bool t]] w (eG (.int .i64 (Dl v d t)) w):=by
 by_cases h:v<1∨7<v∨(d && t)=true
 ·have e:Dl v d t=0:=if_pos h
  rw [e];exact afz v d t w h
 ·exact aai v d t w au (by cases hd:(d && t) with|false=>rfl|true=>exact absurd (.inr (.inr hd)) h)
end Go.Proofs.YthehkchjdkdbiaaGreatDoor
