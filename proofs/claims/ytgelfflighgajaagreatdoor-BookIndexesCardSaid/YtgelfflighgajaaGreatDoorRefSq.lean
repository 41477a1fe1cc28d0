/- The symbols of the reference: contracts. -/
import Derived.Test.YtgelfflighgajaaGreatDoorProg
import Derived.Test.YtgelfflighgajaaGreatDoorCalmSq
set_option maxHeartbeats 800000
set_option maxRecDepth 100000
set_option linter.unusedVariables false
set_option linter.unusedSimpArgs false
namespace Go.Proofs.YtgelfflighgajaaGreatDoor
open Go.RowKit
attribute [local go_sem]mk_bs bs_size bs_toList bs_append bs_extract
attribute [local simp]run_cut run_cut_to run_cut_from run_add_bs
theorem known_any (n:Int) (w:World):Calls Tryz.prog 75 #[.int .u8 n] w fun e w'=>e=.returned (.bool (decide (1≤n∧n≤4)))∧w'=w:=by
 by_cases h:1≤n∧n≤4
 ·rw [decide_eq_true h]
  obtain ⟨h1,h4⟩:=h
  go_enter Tryz.func75,Tryz.ntmps75
  go_wp2
  go_ret
  exact ⟨rfl,rfl⟩
 ·rw [decide_eq_false h]
  by_cases h1:1≤n
  ·have h4:¬ n≤4:=fun h4=>h ⟨h1,h4⟩
   clear h
   go_enter Tryz.func75,Tryz.ntmps75
   go_wp2
   go_ret
   exact ⟨rfl,rfl⟩
  ·clear h
   go_enter Tryz.func75,Tryz.ntmps75
   go_wp2
   go_ret
   exact ⟨rfl,rfl⟩
def frLetters:List UInt8:=[97,98,99,100,101,102,103,104,105,107,108,109,110,111,112,113,114,115,116]
theorem frenchFret_any (f:Int)(w:World)(h0:0≤f)(h1:f≤18) :
  Calls Tryz.prog 242 #[.int .i64 f] w fun e w'=>e=.returned (.string (bs (cut frLetters f (f+1))))∧w'=w:=by
 have g1:f≤f+1:=by omega
 have g2:f+1≤19:=by omega
 have g3:0≤f+1:=by omega
 unfold frLetters
 go_enter Tryz.func242,Tryz.ntmps242
 go_wp2
 go_ret
 exact⟨rfl,rfl⟩
def figLetters:List UInt8:=[48,49,50,51,52,53,54,55,56,57,120]
theorem rfigure_any (f:Int)(w:World)(h0:0≤f)(h1:f≤10) :
  Calls Tryz.prog 243 #[.int .i64 f] w fun e w'=>e=.returned (.string (bs (cut figLetters f (f+1))))∧w'=w:=by
 have g1:f≤f+1:=by omega
 have g2:f+1≤11:=by omega
 have g3:0≤f+1:=by omega
 unfold figLetters
 go_enter Tryz.func243,Tryz.ntmps243
 go_wp2
 go_ret
 exact⟨rfl,rfl⟩
def rsmall:List UInt8:=[97,98,99,100,101,102,103,104,105,107,108,109,110,111,112,113,114,115,116,118,120,121,122,38,57]
def rge (c f:Int):List UInt8 :=
 if c=6 then cut [43,65,66,67,68,69,70,71,72,73,75] f (f+1)
 else if f=0 then cut [49,50,51,52,53] (5-c) (6-c)
 else if 5<f then cut rsmall (5*((f-1) % 5)+5-c) (5*((f-1) % 5)+6-c)++cut rsmall (5*((f-1) % 5)+5-c) (5*((f-1) % 5)+6-c)
 else cut rsmall (5*((f-1) % 5)+5-c) (5*((f-1) % 5)+6-c)
theorem rgerman_any (c f:Int) (w:World) (hc:1≤c∧c≤6) (hf:0≤f∧f≤10) :
  Calls Tryz.prog 244 #[.int .i64 c,.int .i64 f] w fun e w'=>e=.returned (.string (bs (rge c f)))∧w'=w:=by
 obtain ⟨hc0,hc1⟩:=hc
 obtain ⟨hf0,hf1⟩:=hf
 have g1:f≤f+1:=by omega
 have g2:f+1≤11:=by omega
 have g3:0≤f+1:=by omega
 by_cases h6:c=6
 ·subst h6
  go_enter Tryz.func244,Tryz.ntmps244
  go_wp2
  go_ret
  exact ⟨rfl,rfl⟩
 ·have hb1:(c == 6)=false:=by simp;exact h6
  by_cases h0:f=0
  ·subst h0
   have k1:0≤5-c:=by omega
   have k1':c≤5:=by omega
   have k2:5-c≤6-c:=by omega
   have k3:6-c≤5:=by omega
   have e1:rge c 0=cut [49,50,51,52,53] (5-c) (6-c):=by unfold rge;rw [if_neg h6,if_pos rfl]
   rw [e1]
   go_enter Tryz.func244,Tryz.ntmps244
   go_wp2
   go_ret
   exact ⟨rfl,rfl⟩
  ·have hb2:(f == 0)=false:=by simp;exact h0
   have k0:0≤5*((f-1) % 5)+5-c:=by omega
   have k0':c≤5*((f-1) % 5)+5:=by omega
   have k1:5*((f-1) % 5)+5-c≤5*((f-1) % 5)+6-c:=by omega
   have k2:5*((f-1) % 5)+6-c≤25:=by omega
   have kl:=cut_length [97,98,99,100,101,102,103,104,105,107,108,109,110,111,112,113,114,115,116,118,120,121,122,38,57] (5*((f-1) % 5)+5-c) (5*((f-1) % 5)+6-c)
   have kl':(cut [97,98,99,100,101,102,103,104,105,107,108,109,110,111,112,113,114,115,116,118,120,121,122,38,57] (5*((f-1) % 5)+5-c) (5*((f-1) % 5)+6-c)).length+(cut [97,98,99,100,101,102,103,104,105,107,108,109,110,111,112,113,114,115,116,118,120,121,122,38,57] (5*((f-1) % 5)+5-c) (5*((f-1) % 5)+6-c)).length≤9223372036854775807:=by
    have:([97,98,99,100,101,102,103,104,105,107,108,109,110,111,112,113,114,115,116,118,120,121,122,38,57]:List UInt8).length=25:=rfl
    omega
   clear kl
   by_cases h5:5<f
   ·have e1:rge c f=cut rsmall (5*((f-1) % 5)+5-c) (5*((f-1) % 5)+6-c)++cut rsmall (5*((f-1) % 5)+5-c) (5*((f-1) % 5)+6-c):=by unfold rge;rw [if_neg h6,if_neg h0,if_pos h5]
    rw [e1]
    unfold rsmall
    go_enter Tryz.func244,Tryz.ntmps244
    go_wp2
    go_ret
    exact ⟨rfl,rfl⟩
   ·have e1:rge c f=cut rsmall (5*((f-1) % 5)+5-c) (5*((f-1) % 5)+6-c):=by unfold rge;rw [if_neg h6,if_neg h0,if_neg h5]
    rw [e1]
    unfold rsmall
    go_enter Tryz.func244,Tryz.ntmps244
    go_wp2
    go_ret
    exact ⟨rfl,rfl⟩
def itOuter (c:Int):List UInt8:=[[55],[56],[57],[120],[49,49],[49,50],[49,51],[49,52]].getD (c-7).toNat []
def rS (s c f:Int):List UInt8 :=
 if s=1 then
  (if c≤7 then cut frLetters f (f+1) else if c≤10 then cut [47,47,47] 0 (c-7)++cut frLetters f (f+1) else if f=0 then cut [52,53,54,55] (c-11) (c-10) else [])
 else if s=4 then (if c≤6∧f≤10 then rge c f else [])
 else if c≤6∧f≤10 then cut figLetters f (f+1) else if s=2∧6<c∧f=0 then itOuter c else []
theorem rsymbol_1 (c f:Int) (w:World) (hc:1≤c∧c≤14) (hf:0≤f∧f≤18) :
  Calls Tryz.prog 226 #[.int .u8 1,.int .i64 c,.int .i64 f] w (Ret (.string (bs (rS 1 c f))) w):=by
 obtain ⟨hc0,hc1⟩:=hc
 obtain ⟨hf0,hf1⟩:=hf
 by_cases h7:c≤7
 ·have e1:rS 1 c f=cut frLetters f (f+1):=by unfold rS;rw [if_pos rfl,if_pos h7]
  rw [e1]
  go_enter Tryz.func226,Tryz.ntmps226
  go_wp2_with (go_at_call 242;refine (frenchFret_any _ _ hf0 hf1).mono ?_;rintro e w' ⟨rfl,rfl⟩)
  go_ret
  exact Ret.mk' rfl zqb
 ·by_cases h10:c≤10
  ·have e1:rS 1 c f=cut [47,47,47] 0 (c - 7)++cut frLetters f (f+1):=by unfold rS;rw [if_pos rfl,if_neg h7,if_pos h10]
   rw [e1]
   have g0:0≤c - 7:=by omega
   have g0':7≤c:=by omega
   have g1:c - 7≤3:=by omega
   have gl:(cut [47,47,47] 0 (c - 7)).length+(cut frLetters f (f+1)).length≤9223372036854775807:=by
    have a:=cut_length [47,47,47] 0 (c - 7)
    have b:=cut_length frLetters f (f+1)
    have a':([47,47,47]:List UInt8).length=3:=rfl
    have b':frLetters.length=19:=rfl
    omega
   have w1:IntKind.i64.wrap (c - 7)=c - 7:=IntWalk.i64_in _ (by omega)
   go_enter Tryz.func226,Tryz.ntmps226
   go_wp2_with fail
   go_quiet ((go_at_call 242;exact Calls.quiet_of_same (frenchFret_any _ _ hf0 hf1)))
   go_wp2_with fail
   go_ret
   exact Ret.mk' rfl zqb
  ·by_cases h0:f=0
   ·subst h0
    have e1:rS 1 c 0=cut [52,53,54,55] (c - 11) (c - 10):=by unfold rS;rw [if_pos rfl,if_neg h7,if_neg h10,if_pos rfl]
    have g0:0≤c - 11:=by omega
    have g0':11≤c:=by omega
    have g1:c - 11≤c - 10:=by omega
    have g2:c - 10≤4:=by omega
    rw [e1]
    go_enter Tryz.func226,Tryz.ntmps226
    go_wp2_with fail
    go_ret
    exact Ret.mk' rfl zqb
   ·have e1:rS 1 c f=[]:=by unfold rS;rw [if_pos rfl,if_neg h7,if_neg h10,if_neg h0]
    have hb:(f == 0)=false:=by simp;exact h0
    rw [e1]
    go_enter Tryz.func226,Tryz.ntmps226
    go_wp2_with fail
    go_ret
    exact Ret.mk' rfl zqb
theorem rsymbol_4 (c f:Int) (w:World) (hc:1≤c∧c≤14) (hf:0≤f∧f≤18) :
  Calls Tryz.prog 226 #[.int .u8 4,.int .i64 c,.int .i64 f] w (Ret (.string (bs (rS 4 c f))) w):=by
 obtain ⟨hc0,hc1⟩:=hc
 obtain ⟨hf0,hf1⟩:=hf
 by_cases h6:c≤6
 ·by_cases h10:f≤10
  ·have e1:rS 4 c f=rge c f:=by unfold rS;rw [if_neg (by decide),if_pos rfl,if_pos ⟨h6,h10⟩]
   rw [e1]
   go_enter Tryz.func226,Tryz.ntmps226
   go_wp2_with (go_at_call 244;refine (rgerman_any _ _ _ ⟨hc0,h6⟩ ⟨hf0,h10⟩).mono ?_;rintro e w' ⟨rfl,rfl⟩)
   go_ret
   exact Ret.mk' rfl zqb
  ·have e1:rS 4 c f=[]:=by unfold rS;rw [if_neg (by decide),if_pos rfl,if_neg (fun h=>h10 h.2)]
   rw [e1]
   go_enter Tryz.func226,Tryz.ntmps226
   go_wp2_with fail
   go_ret
   exact Ret.mk' rfl zqb
 ·have e1:rS 4 c f=[]:=by unfold rS;rw [if_neg (by decide),if_pos rfl,if_neg (fun h=>h6 h.1)]
  rw [e1]
  go_enter Tryz.func226,Tryz.ntmps226
  go_wp2_with fail
  go_ret
  exact Ret.mk' rfl zqb
theorem rsymbol_fig (s c f:Int) (w:World) (hs:s=2∨s=3) (hc:1≤c∧c≤14) (hf:0≤f∧f≤18) (h6:c≤6) (h10:f≤10) :
  Calls Tryz.prog 226 #[.int .u8 s,.int .i64 c,.int .i64 f] w (Ret (.string (bs (rS s c f))) w):=by
 obtain ⟨hc0,hc1⟩:=hc
 obtain ⟨hf0,hf1⟩:=hf
 have e1:rS s c f=cut figLetters f (f+1):=by unfold rS;rw [if_neg (by omega),if_neg (by omega),if_pos ⟨h6,h10⟩]
 rw [e1]
 rcases hs with rfl|rfl
 all_goals
  clear e1
  go_enter Tryz.func226,Tryz.ntmps226
  go_wp2_with (go_at_call 243;refine (rfigure_any _ _ hf0 h10).mono ?_;rintro e w' ⟨rfl,rfl⟩)
  go_ret
  exact Ret.mk' rfl zqb
theorem rsymbol_3n (c f:Int) (w:World) (h:¬ (c≤6∧f≤10)) :
  Calls Tryz.prog 226 #[.int .u8 3,.int .i64 c,.int .i64 f] w (Ret (.string (bs (rS 3 c f))) w):=by
 have e1:rS 3 c f=[]:=by unfold rS;rw [if_neg (by decide),if_neg (by decide),if_neg h,if_neg (by simp)]
 rw [e1]
 by_cases h6:c≤6
 ·have h10:¬ f≤10:=fun k=>h ⟨h6,k⟩
  clear h
  go_enter Tryz.func226,Tryz.ntmps226
  go_wp2_with fail
  go_ret
  exact Ret.mk' rfl zqb
 ·clear h
  go_enter Tryz.func226,Tryz.ntmps226
  go_wp2_with fail
  go_ret
  exact Ret.mk' rfl zqb
theorem rsymbol_2n (c f:Int) (w:World) (hc:1≤c∧c≤14) (h:¬ (c≤6∧f≤10)) :
  Calls Tryz.prog 226 #[.int .u8 2,.int .i64 c,.int .i64 f] w (Ret (.string (bs (rS 2 c f))) w):=by
 obtain ⟨hc0,hc1⟩:=hc
 by_cases h6:c≤6
 ·have e1:rS 2 c f=[]:=by unfold rS;rw [if_neg (by decide),if_neg (by decide),if_neg h,if_neg (by omega)]
  have h10:¬ f≤10:=fun k=>h ⟨h6,k⟩
  rw [e1]
  clear h
  go_enter Tryz.func226,Tryz.ntmps226
  go_wp2_with fail
  go_ret
  exact Ret.mk' rfl zqb
 ·clear h
  have h6':6 < c:=by omega
  by_cases h0:f=0
  ·subst h0
   have e1:rS 2 c 0=itOuter c:=by unfold rS;rw [if_neg (by decide),if_neg (by decide),if_neg (by omega),if_pos (by omega)]
   rw [e1]
   have:c=7∨c=8∨c=9∨c=10∨c=11∨c=12∨c=13∨c=14:=by omega
   rcases this with rfl|rfl|rfl|rfl|rfl|rfl|rfl|rfl
   all_goals
    clear e1
    go_enter Tryz.func226,Tryz.ntmps226
    go_wp2_with fail
    go_ret
    exact Ret.mk' rfl zqb
  ·have e1:rS 2 c f=[]:=by unfold rS;rw [if_neg (by decide),if_neg (by decide),if_neg (by omega),if_neg (by omega)]
   have hb:(f == 0)=false:=by simp;exact h0
   rw [e1]
   go_enter Tryz.func226,Tryz.ntmps226
   go_wp2_with fail
   go_ret
   exact Ret.mk' rfl zqb
theorem rsymbol_any (s c f:Int)(w:World)(hs:1≤s∧s≤4)(hc:1≤c∧c≤14)(hf:0≤f∧f≤18) :
  Calls Tryz.prog 226 #[.int .u8 s,.int .i64 c,.int .i64 f] w (Ret (.string (bs (rS s c f))) w):=by
 have:s=1∨s=2∨s=3∨s=4:=by omega
 rcases this with rfl|rfl|rfl|rfl
 ·exact rsymbol_1 c f w hc hf
 ·by_cases h:c≤6∧f≤10
  ·exact rsymbol_fig 2 c f w (.inl rfl) hc hf h.1 h.2
  ·exact rsymbol_2n c f w hc h
 ·by_cases h:c≤6∧f≤10
  ·exact rsymbol_fig 3 c f w (.inr rfl) hc hf h.1 h.2
  ·exact rsymbol_3n c f w h
 ·exact rsymbol_4 c f w hc hf
end Go.Proofs.YtgelfflighgajaaGreatDoor
