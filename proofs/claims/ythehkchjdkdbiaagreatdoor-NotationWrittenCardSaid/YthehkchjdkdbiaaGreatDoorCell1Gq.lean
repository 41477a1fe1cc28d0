/- Cell of the program, in one system. -/
import Derived.Test.YthehkchjdkdbiaaGreatDoorMk1Gq
set_option maxHeartbeats 1600000
set_option maxRecDepth 100000
set_option linter.unusedVariables false
set_option linter.unusedSimpArgs false
namespace Go.Proofs.YthehkchjdkdbiaaGreatDoor
open Go.RowKit
attribute [local go_sem]mk_bs bs_size bs_toList bs_append bs_extract
attribute [local simp]run_cut run_cut_to run_cut_from run_add_bs
theorem pCell_marks_1 (c f r g h L:Int)(w:World)(hc:1≤c∧c≤14)(hf:0≤f∧f≤18)(hm:(r < 0∨3 < r)∨(g < 0∨4 < g)) :
  Calls Tryz.prog 36 #[.int .u8 1,.agg #[.int .i64 c,.int .i64 f,.int .i64 r,.int .i64 g,.int .i64 h],.int .i64 L] w (Ret (.tuple #[.string (bs []),.int .i64 23]) w):=by
 by_cases h1:r < 0
 ·clear hm
  go_enter Tryz.func36,Tryz.ntmps36
  go_wp2_with (go_at_call 84;refine (placed_1 _ _ _ hc hf).mono ?_;rintro e w'⟨rfl,rfl⟩)
  go_ret2
  exact Ret.mk' rfl zqb
 ·by_cases h2:3 < r
  ·clear hm
   go_enter Tryz.func36,Tryz.ntmps36
   go_wp2_with (go_at_call 84;refine (placed_1 _ _ _ hc hf).mono ?_;rintro e w'⟨rfl,rfl⟩)
   go_ret2
   exact Ret.mk' rfl zqb
  ·by_cases h3:g < 0
   ·clear hm
    go_enter Tryz.func36,Tryz.ntmps36
    go_wp2_with (go_at_call 84;refine (placed_1 _ _ _ hc hf).mono ?_;rintro e w'⟨rfl,rfl⟩)
    go_ret2
    exact Ret.mk' rfl zqb
   ·have h4:4 < g:=by omega
    clear hm
    go_enter Tryz.func36,Tryz.ntmps36
    go_wp2_with (go_at_call 84;refine (placed_1 _ _ _ hc hf).mono ?_;rintro e w'⟨rfl,rfl⟩)
    go_ret2
    exact Ret.mk' rfl zqb
theorem pCell_holds_1 (c f r g h L:Int)(w:World)(hc:1≤c∧c≤14)(hf:0≤f∧f≤18)(hr:0≤r∧r≤3)(hg:0≤g∧g≤4)(hm:((L < 0∨15 < L)∨(h < 0∨L < h))∨(0 < h∧f=0)) :
  Calls Tryz.prog 36 #[.int .u8 1,.agg #[.int .i64 c,.int .i64 f,.int .i64 r,.int .i64 g,.int .i64 h],.int .i64 L] w (Ret (.tuple #[.string (bs []),.int .i64 24]) w):=by
 have n1:¬ r < 0:=by omega
 have n2:¬ 3 < r:=by omega
 have n3:¬ g < 0:=by omega
 have n4:¬ 4 < g:=by omega
 by_cases h1:L < 0
 ·clear hm
  go_enter Tryz.func36,Tryz.ntmps36
  go_wp2_with (go_at_call 84;refine (placed_1 _ _ _ hc hf).mono ?_;rintro e w'⟨rfl,rfl⟩)
  go_ret2
  exact Ret.mk' rfl zqb
 ·by_cases h2:15 < L
  ·clear hm
   go_enter Tryz.func36,Tryz.ntmps36
   go_wp2_with (go_at_call 84;refine (placed_1 _ _ _ hc hf).mono ?_;rintro e w'⟨rfl,rfl⟩)
   go_ret2
   exact Ret.mk' rfl zqb
  ·by_cases h3:h < 0
   ·clear hm
    go_enter Tryz.func36,Tryz.ntmps36
    go_wp2_with (go_at_call 84;refine (placed_1 _ _ _ hc hf).mono ?_;rintro e w'⟨rfl,rfl⟩)
    go_ret2
    exact Ret.mk' rfl zqb
   ·by_cases h4:L < h
    ·clear hm
     go_enter Tryz.func36,Tryz.ntmps36
     go_wp2_with (go_at_call 84;refine (placed_1 _ _ _ hc hf).mono ?_;rintro e w'⟨rfl,rfl⟩)
     go_ret2
     exact Ret.mk' rfl zqb
    ·have h5:0 < h:=by omega
     have h6:f=0:=by omega
     subst h6
     clear hm
     go_enter Tryz.func36,Tryz.ntmps36
     go_wp2_with (go_at_call 84;refine (placed_1 _ _ _ hc hf).mono ?_;rintro e w'⟨rfl,rfl⟩)
     go_ret2
     exact Ret.mk' rfl zqb
theorem pCell_ok_1 (c f r g h L:Int)(w:World)(hc:1≤c∧c≤14)(hf:0≤f∧f≤18)(hr:0≤r∧r≤3)(hg:0≤g∧g≤4)(hm:¬ (((L < 0∨15 < L)∨(h < 0∨L < h))∨(0 < h∧f=0))) :
  Calls Tryz.prog 36 #[.int .u8 1,.agg #[.int .i64 c,.int .i64 f,.int .i64 r,.int .i64 g,.int .i64 h],.int .i64 L] w (Ret (if cellOk 1 c f r g h L=true then .tuple #[.string (bs (cellS 1 c f r g h L)),.int .i64 0] else .tuple #[.string (bs []),.int .i64 31]) w):=by
 have n1:¬ r < 0:=by omega
 have n2:¬ 3 < r:=by omega
 have n3:¬ g < 0:=by omega
 have n4:¬ 4 < g:=by omega
 have n5:¬ L < 0:=by omega
 have n6:¬ 15 < L:=by omega
 have n7:¬ h < 0:=by omega
 have n8:¬ L < h:=by omega
 have hh:0≤h∧h≤15:=by omega
 by_cases hz:0 < h
 ·have hf0:(f == 0)=false:=by simp;omega
  clear hm
  cases hok:cellOk 1 c f r g h L
  all_goals
   go_enter Tryz.func36,Tryz.ntmps36
   go_wp2_with (first|(go_at_call 84;refine (placed_1 _ _ _ hc hf).mono ?_;rintro e w'⟨rfl,rfl⟩)|(go_at_call 87;refine (pcell_1 _ _ _ _ _ _ _ hc hf hr hg hh).mono ?_;rintro e w1⟨rfl,hb1⟩))
   go_ret2
   exact Ret.mk' rfl zqb
 ·clear hm
  cases hok:cellOk 1 c f r g h L
  all_goals
   go_enter Tryz.func36,Tryz.ntmps36
   go_wp2_with (first|(go_at_call 84;refine (placed_1 _ _ _ hc hf).mono ?_;rintro e w'⟨rfl,rfl⟩)|(go_at_call 87;refine (pcell_1 _ _ _ _ _ _ _ hc hf hr hg hh).mono ?_;rintro e w1⟨rfl,hb1⟩))
   go_ret2
   exact Ret.mk' rfl zqb
theorem pCell_place_1 (c f r g h L:Int)(w:World)(hb:(c < 1∨14 < c)∨(f < 0∨18 < f)) :
  Calls Tryz.prog 36 #[.int .u8 1,.agg #[.int .i64 c,.int .i64 f,.int .i64 r,.int .i64 g,.int .i64 h],.int .i64 L] w (Ret (.tuple #[.string (bs []),.int .i64 (symErr 1 c f)]) w):=by
 rw [symErr_bad 1 c f (by decide) hb]
 obtain⟨E,hE1,hE2⟩:∃ E:Int,(if c < 1∨14 < c then 12 else 13)=E∧E≠0:=⟨_,rfl,by by_cases hc:c < 1∨14 < c<;>simp [hc]⟩
 have hb2:(E == 0)=false:=by simp;exact hE2
 have hb3:(E != 0)=true:=by simp;exact hE2
 have hpl:=placed_bad_1 c f
 rw [hE1] at hpl ⊢
 have H:=Lib.hid hpl
 have HB:=Lib.hid hb
 clear hpl hE1 hb
 go_enter Tryz.func36,Tryz.ntmps36
 go_wp2_with (go_at_call 84;refine (H.out _ HB.out).mono ?_;rintro e w'⟨rfl,rfl⟩)
 go_ret2
 exact Ret.mk' rfl zqb
theorem pCell_1 (c f r g h L:Int)(w:World) :
  Calls Tryz.prog 36 #[.int .u8 1,.agg #[.int .i64 c,.int .i64 f,.int .i64 r,.int .i64 g,.int .i64 h],.int .i64 L] w (Ret (.tuple #[.string (bs (cellTxt 1 c f r g h L)),.int .i64 (cellErr 1 c f r g h L)]) w):=by
 by_cases hb:(c<1∨14<c)∨(f<0∨18<f)
 ·have e:=cellErr_place 1 c f r g h L (by decide) hb
  rw [e.1,e.2];exact pCell_place_1 c f r g h L w hb
 ·have hc:1≤c∧c≤14:=by omega
  have hf:0≤f∧f≤18:=by omega
  by_cases h1:(r<0∨3<r)∨(g<0∨4<g)
  ·have e:=cellErr_marks 1 c f r g h L (by decide) hc hf h1
   rw [e.1,e.2];exact pCell_marks_1 c f r g h L w hc hf h1
  ·have hr:0≤r∧r≤3:=by omega
   have hg:0≤g∧g≤4:=by omega
   by_cases h2:((L<0∨15<L)∨(h<0∨L<h))∨(0<h∧f=0)
   ·have e:=cellErr_holds 1 c f r g h L (by decide) hc hf h1 h2
    rw [e.1,e.2];exact pCell_holds_1 c f r g h L w hc hf hr hg h2
   ·have e:=cellErr_ok 1 c f r g h L (by decide) hc hf h1 h2
    rw [e];exact pCell_ok_1 c f r g h L w hc hf hr hg h2
end Go.Proofs.YthehkchjdkdbiaaGreatDoor
