/- Symbol and Place of the program, in one system. -/
import Derived.Test.YtkgnmddakiagbaaGreatDoorRefXq
import Derived.Test.YtkgnmddakiagbaaGreatDoorShelfXq
import Derived.Deep.RegionHeld3
import Derived.Shelf.Strings.OnBuilder
set_option linter.unusedVariables false
set_option linter.unusedSimpArgs false
namespace Go.Proofs.YtkgnmddakiagbaaGreatDoor
open Go.RowKit
set_option maxHeartbeats 400000
set_option maxRecDepth 100000
attribute [local go_sem]mk_bs bs_size bs_toList bs_append bs_extract
attribute [local simp]run_cut run_cut_to run_cut_from run_add_bs
def dig2 (u:Nat):List UInt8:=if u<10 then [UInt8.ofNat (48+u)]else [UInt8.ofNat (48+u/10),UInt8.ofNat (48+u % 10)]
theorem decDigits_dig2 (u:Nat)(h:u<100):Lib.decDigits u=dig2 u:=by
 unfold dig2
 by_cases h1:u<10
 ·rw [if_pos h1,Lib.decDigits,dif_pos h1]
 ·rw [if_neg h1,Lib.decDigits,dif_neg h1,Lib.decDigits,dif_pos (by omega)];rfl
theorem itoa_any (n:Int)(w:World)(h0:0≤n)(h1:n<100) :
  Calls Tryz.prog 76 #[.int .i64 n] w fun e w'=>e=.returned (.string (bs (dig2 n.toNat)))∧w'=w:=by
 obtain⟨k,rfl⟩:=Int.eq_ofNat_of_zero_le h0
 rw [Int.toNat_natCast,← decDigits_dig2 k (by omega)]
 exact Tryz.strconv_Itoa_small k (by omega) w
theorem repeat_any (l:List UInt8) (c:Int) (w:World) (h0:0≤c) (h1:c≤100) (h2:l.length≤100) :
  Calls Tryz.prog 276 #[.string (bs l),.int .i64 c] w (Ret (.string (bs (Lib.repeatL l c.toNat))) w):=by
 obtain ⟨k,rfl⟩:=Int.eq_ofNat_of_zero_le h0
 have hk:l.length*k≤100*100:=Nat.mul_le_mul h2 (by omega)
 exact Tryz.strings_Repeat (bs l) k w (by omega) (by rw [bs_size];omega)
def frS (c f:Int):List UInt8 :=
 if 11≤c then dig2 (c-7).toNat else Lib.repeatL [47] (max (c-7) 0).toNat++cut [97,98,99,100,101,102,103,104,105,107,108,109,110,111,112,113,114,115,116] f (f+1)
def frOk(c f:Int):Bool:=if 11≤c then f == 0 else true
theorem fr_symbol_low (c f:Int) (w:World) (hc:11≤c) (hc':c≤14) (hf:0≤f) (hf':f≤18) :
  Calls Tryz.prog 274 #[.agg #[],.agg #[.int .i64 c,.int .i64 f]] w (Ret (.tuple #[.string (bs (frS c f)),.bool (frOk c f)]) w):=by
 have e1:frS c f=dig2 (c - 7).toNat:=if_pos hc
 have e2:frOk c f=(f == 0):=if_pos hc
 rw [e1,e2]
 go_enter Tryz.func274,Tryz.ntmps274
 go_wp2
 go_quiet ((go_at_call 76;exact Calls.quiet_of_same (itoa_any _ _ (by omega) (by omega))))
 go_wp2
 go_ret2
 exact Ret.mk' rfl (by repeat (first|exact Below.refl _ _|assumption|refine bel_drewN ?_ _|refine Below.drew ?_|refine bel_alloc ?_ _|refine Below.setCell ?_ (by first|omega|(simp;done)|(simp;omega)) _|refine bel_step ?_ (by assumption)))
theorem fr_symbol_high (c f:Int) (w:World) (hc:1≤c) (hc':c≤10) (hf:0≤f) (hf':f≤18) :
  Calls Tryz.prog 274 #[.agg #[],.agg #[.int .i64 c,.int .i64 f]] w (Ret (.tuple #[.string (bs (frS c f)),.bool (frOk c f)]) w):=by
 have e1:frS c f=Lib.repeatL [47] (max (c - 7) 0).toNat++cut [97,98,99,100,101,102,103,104,105,107,108,109,110,111,112,113,114,115,116] f (f+1):=if_neg (by omega)
 have e2:frOk c f=true:=if_neg (by omega)
 have m0:0≤max (c - 7) 0:=by omega
 have m1:max (c - 7) 0≤100:=by omega
 have hsz:(Lib.repeatL [47] (max (c - 7) 0).toNat).length≤100:=by simp [Lib.repeatL_length];omega
 have g0:0≤f+1:=by omega
 have g1:f+1≤19:=by omega
 have g2:(Lib.repeatL [47] (max (c - 7) 0).toNat).length+(cut [97,98,99,100,101,102,103,104,105,107,108,109,110,111,112,113,114,115,116] f (f+1)).length≤9223372036854775807:=by
  have:=cut_length [97,98,99,100,101,102,103,104,105,107,108,109,110,111,112,113,114,115,116] f (f+1)
  simp at this;omega
 have g3:f≤f+1:=by omega
 have hc11:¬ 11≤c:=by omega
 have e7:IntKind.i64.wrap (c - 7)=c - 7:=IntWalk.i64_in _ (by omega)
 have e8:IntKind.i64.wrap (f+1)=f+1:=IntWalk.i64_in _ (by omega)
 rw [e1,e2]
 go_enter Tryz.func274,Tryz.ntmps274
 go_wp2
 go_region_held3 (fun w'=>w'.cell? ⟨w.heap.size+1,0,none⟩=some (.int .i64 c)∧w'.cell? ⟨w.heap.size+1,1,none⟩=some (.int .i64 f))
  (first|(simp [bc];done)|go_keep)
  ((go_at_call 276;refine (repeat_any _ _ _ m0 m1 (by simp)).mono ?_;rintro e w' ⟨rfl,hb⟩;obtain ⟨bc,bf⟩:=bcell hb))
 go_wp2
 go_ret2
 exact Ret.mk' rfl (by repeat (first|exact Below.refl _ _|assumption|refine bel_drewN ?_ _|refine Below.drew ?_|refine bel_alloc ?_ _|refine Below.setCell ?_ (by first|omega|(simp;done)|(simp;omega)) _|refine bel_step ?_ (by assumption)))
theorem fr_symbol (c f:Int)(w:World)(hc:1≤c∧c≤14)(hf:0≤f∧f≤18) :
  Calls Tryz.prog 274 #[.agg #[],.agg #[.int .i64 c,.int .i64 f]] w (Ret (.tuple #[.string (bs (frS c f)),.bool (frOk c f)]) w):=by
 by_cases h:11≤c
 ·exact fr_symbol_low c f w h hc.2 hf.1 hf.2
 ·exact fr_symbol_high c f w hc.1 (by omega) hf.1 hf.2
def figS(f:Int):List UInt8:=if f≤9 then dig2 f.toNat else if f=10 then [120]else []
def figOk (f:Int):Bool:=decide (f≤10)
theorem figure_any (f:Int) (w:World) (hf:0≤f∧f≤18) :
  Calls Tryz.prog 281 #[.agg #[],.int .i64 f] w (Ret (.tuple #[.string (bs (figS f)),.bool (figOk f)]) w):=by
 obtain ⟨h0,h1⟩:=hf
 by_cases h9:f≤9
 ·have e1:figS f=dig2 f.toNat:=if_pos h9
  have e2:figOk f=true:=decide_eq_true (by omega)
  rw [e1,e2]
  go_enter Tryz.func281,Tryz.ntmps281
  go_wp2_with (go_at_call 76;refine (itoa_any _ _ (by omega) (by omega)).mono ?_;rintro e w' ⟨rfl,rfl⟩)
  go_ret2
  exact Ret.mk' rfl (by repeat (first|exact Below.refl _ _|assumption|refine bel_drewN ?_ _|refine Below.drew ?_|refine bel_alloc ?_ _|refine Below.setCell ?_ (by first|omega|(simp;done)|(simp;omega)) _|refine bel_step ?_ (by assumption)))
 ·by_cases h10:f=10
  ·subst h10
   go_enter Tryz.func281,Tryz.ntmps281
   go_wp2
   go_ret2
   exact Ret.mk' rfl (by repeat (first|exact Below.refl _ _|assumption|refine bel_drewN ?_ _|refine Below.drew ?_|refine bel_alloc ?_ _|refine Below.setCell ?_ (by first|omega|(simp;done)|(simp;omega)) _|refine bel_step ?_ (by assumption)))
  ·have e1:figS f=[]:=by unfold figS;rw [if_neg h9,if_neg h10]
   have e2:figOk f=false:=decide_eq_false (by omega)
   have hb:(f == 10)=false:=by simp;exact h10
   rw [e1,e2]
   go_enter Tryz.func281,Tryz.ntmps281
   go_wp2
   go_ret2
   exact Ret.mk' rfl (by repeat (first|exact Below.refl _ _|assumption|refine bel_drewN ?_ _|refine Below.drew ?_|refine bel_alloc ?_ _|refine Below.setCell ?_ (by first|omega|(simp;done)|(simp;omega)) _|refine bel_step ?_ (by assumption)))
def itS(c f:Int):List UInt8:=if c≤6 then figS f else if c=10 then [120]else dig2 c.toNat
def itOk(c f:Int):Bool:=if c≤6 then figOk f else f == 0
theorem it_symbol (c f:Int) (w:World) (hc:1≤c∧c≤14) (hf:0≤f∧f≤18) :
  Calls Tryz.prog 289 #[.agg #[],.agg #[.int .i64 c,.int .i64 f]] w (Ret (.tuple #[.string (bs (itS c f)),.bool (itOk c f)]) w):=by
 obtain ⟨hc0,hc1⟩:=hc
 have hp:∀ (w:World) (o:Obj),(partAt ⟨w.heap.size,0,none⟩ 0 0).run Tryz.prog ((w.alloc (.cells #[] 191)).alloc o)=.ok ⟨w.heap.size,0,none⟩ ((w.alloc (.cells #[] 191)).alloc o) :=
  fun w o=>run_partAt_zero _ _ _ _ (heap_alloc2 w _ o) (by kernel_rfl)
 by_cases h6:c≤6
 ·have e1:itS c f=figS f:=if_pos h6
  have e2:itOk c f=figOk f:=if_pos h6
  rw [e1,e2]
  go_enter Tryz.func289,Tryz.ntmps289
  go_wp2_with (go_at_call 281;refine (figure_any _ _ hf).mono ?_;rintro e w' ⟨rfl,hb⟩)
  go_ret2
  exact Ret.mk' rfl (by repeat (first|exact Below.refl _ _|assumption|refine bel_drewN ?_ _|refine Below.drew ?_|refine bel_alloc ?_ _|refine Below.setCell ?_ (by first|omega|(simp;done)|(simp;omega)) _|refine bel_step ?_ (by assumption)))
 ·have e2:itOk c f=(f == 0):=if_neg h6
  by_cases h10:c=10
  ·subst h10
   rw [e2]
   go_enter Tryz.func289,Tryz.ntmps289
   go_wp2
   go_quiet (fail)
   go_wp2
   go_ret2
   exact Ret.mk' rfl (by repeat (first|exact Below.refl _ _|assumption|refine bel_drewN ?_ _|refine Below.drew ?_|refine bel_alloc ?_ _|refine Below.setCell ?_ (by first|omega|(simp;done)|(simp;omega)) _|refine bel_step ?_ (by assumption)))
  ·have e1:itS c f=dig2 c.toNat:=by unfold itS;rw [if_neg h6,if_neg h10]
   have hb:(c == 10)=false:=by simp;exact h10
   rw [e1,e2]
   go_enter Tryz.func289,Tryz.ntmps289
   go_wp2
   go_quiet ((go_at_call 76;exact Calls.quiet_of_same (itoa_any _ _ (by omega) (by omega))))
   go_wp2
   go_ret2
   exact Ret.mk' rfl (by repeat (first|exact Below.refl _ _|assumption|refine bel_drewN ?_ _|refine Below.drew ?_|refine bel_alloc ?_ _|refine Below.setCell ?_ (by first|omega|(simp;done)|(simp;omega)) _|refine bel_step ?_ (by assumption)))
def spS(c f:Int):List UInt8:=if c≤6 then figS f else []
def spOk(c f:Int):Bool:=if c≤6 then figOk f else false
theorem sp_symbol (c f:Int) (w:World) (hf:0≤f∧f≤18) :
  Calls Tryz.prog 297 #[.agg #[],.agg #[.int .i64 c,.int .i64 f]] w (Ret (.tuple #[.string (bs (spS c f)),.bool (spOk c f)]) w):=by
 have hp:∀ (w:World) (o:Obj),(partAt ⟨w.heap.size,0,none⟩ 0 0).run Tryz.prog ((w.alloc (.cells #[] 193)).alloc o)=.ok ⟨w.heap.size,0,none⟩ ((w.alloc (.cells #[] 193)).alloc o) :=
  fun w o=>run_partAt_zero _ _ _ _ (heap_alloc2 w _ o) (by kernel_rfl)
 by_cases h6:c≤6
 ·have e1:spS c f=figS f:=if_pos h6
  have e2:spOk c f=figOk f:=if_pos h6
  have h6':¬ 6 < c:=by omega
  rw [e1,e2]
  go_enter Tryz.func297,Tryz.ntmps297
  go_wp2_with (go_at_call 281;refine (figure_any _ _ hf).mono ?_;rintro e w' ⟨rfl,hb⟩)
  go_ret2
  exact Ret.mk' rfl (by repeat (first|exact Below.refl _ _|assumption|refine bel_drewN ?_ _|refine Below.drew ?_|refine bel_alloc ?_ _|refine Below.setCell ?_ (by first|omega|(simp;done)|(simp;omega)) _|refine bel_step ?_ (by assumption)))
 ·have e1:spS c f=[]:=if_neg h6
  have e2:spOk c f=false:=if_neg h6
  have h6':6 < c:=by omega
  rw [e1,e2]
  go_enter Tryz.func297,Tryz.ntmps297
  go_wp2
  go_ret2
  exact Ret.mk' rfl (by repeat (first|exact Below.refl _ _|assumption|refine bel_drewN ?_ _|refine Below.drew ?_|refine bel_alloc ?_ _|refine Below.setCell ?_ (by first|omega|(simp;done)|(simp;omega)) _|refine bel_step ?_ (by assumption)))
def small:List UInt8:=[97,98,99,100,101,102,103,104,105,107,108,109,110,111,112,113,114,115,116,118,120,121,122,38,57]
def geAt(c f:Int):Int:=(f-1) % 5*5+5-c
def geS (c f:Int):List UInt8 :=
 if 6<c∨10<f then [] else if c=6 then (if f=0 then [43] else cut [65,66,67,68,69,70,71,72,73,75] (f-1) f)
 else if f=0 then dig2 (6-c).toNat else Lib.repeatL (cut small (geAt c f) (geAt c f+1)) ((f+4)/5).toNat
def geOk (c f:Int):Bool:=decide (c≤6∧f≤10)
theorem ge_symbol_t (c f:Int) (w:World) (hc:1≤c∧c≤5) (hf:1≤f∧f≤10) :
  Calls Tryz.prog 304 #[.agg #[],.agg #[.int .i64 c,.int .i64 f]] w (Ret (.tuple #[.string (bs (geS c f)),.bool (geOk c f)]) w):=by
 obtain ⟨hc0,hc1⟩:=hc
 obtain ⟨hf0,hf1⟩:=hf
 have e1:geS c f=Lib.repeatL (cut small (geAt c f) (geAt c f+1)) ((f+4)/5).toNat:=by
  unfold geS;rw [if_neg (by omega),if_neg (by omega),if_neg (by omega)]
 have e2:geOk c f=true:=decide_eq_true (by omega)
 rw [e1,e2]
 unfold geAt small
 have hb1:(c == 6)=false:=by simp;omega
 have hb2:(f == 0)=false:=by simp;omega
 have g0:0≤(f - 1) % 5*5+5 - c:=by omega
 have g0':c≤(f - 1) % 5*5+5:=by omega
 have g2':(f - 1) % 5*5+5 - c≤24:=by omega
 have g1:(f - 1) % 5*5+5 - c≤(f - 1) % 5*5+5 - c+1:=by omega
 have g2:(f - 1) % 5*5+5 - c+1≤25:=by omega
 have g3:0≤f+4:=by omega
 have q0:0≤(f+4)/5:=by omega
 have q1:(f+4)/5≤100:=by omega
 have ql:=cut_length [97,98,99,100,101,102,103,104,105,107,108,109,110,111,112,113,114,115,116,118,120,121,122,38,57] ((f - 1) % 5*5+5 - c) ((f - 1) % 5*5+5 - c+1)
 have ql':(cut [97,98,99,100,101,102,103,104,105,107,108,109,110,111,112,113,114,115,116,118,120,121,122,38,57] ((f - 1) % 5*5+5 - c) ((f - 1) % 5*5+5 - c+1)).length≤100:=Nat.le_trans ql (by decide)
 clear ql
 have w1:IntKind.i64.wrap ((f - 1) % 5*5+5 - c+1)=(f - 1) % 5*5+5 - c+1:=IntWalk.i64_in _ (by omega)
 have w2:IntKind.i64.wrap (f+4)=f+4:=IntWalk.i64_in _ (by omega)
 have w3:IntKind.i64.wrap ((f+4).tdiv 5)=(f+4)/5:=by rw [Int.tdiv_eq_ediv_of_nonneg (by omega)];exact IntWalk.i64_in _ (by omega)
 go_enter Tryz.func304,Tryz.ntmps304
 go_wp2
 go_region_held3 (fun w'=>w'.cell? ⟨w.heap.size+1,0,none⟩=some (.int .i64 c)∧w'.cell? ⟨w.heap.size+1,1,none⟩=some (.int .i64 f))
  (first|(simp [bc];done)|go_keep)
  ((go_at_call 276;refine (repeat_any _ _ _ q0 q1 ql').mono ?_;rintro e w' ⟨rfl,hb⟩;obtain ⟨bc,bf⟩:=bcell hb))
 go_wp2
 go_ret2
 exact Ret.mk' rfl (by repeat (first|exact Below.refl _ _|assumption|refine bel_drewN ?_ _|refine Below.drew ?_|refine bel_alloc ?_ _|refine Below.setCell ?_ (by first|omega|(simp;done)|(simp;omega)) _|refine bel_step ?_ (by assumption)))
theorem ge_symbol (c f:Int) (w:World) (hc:1≤c∧c≤14) (hf:0≤f∧f≤18) :
  Calls Tryz.prog 304 #[.agg #[],.agg #[.int .i64 c,.int .i64 f]] w (Ret (.tuple #[.string (bs (geS c f)),.bool (geOk c f)]) w):=by
 obtain ⟨hc0,hc1⟩:=hc
 obtain ⟨hf0,hf1⟩:=hf
 by_cases hbad:6 < c∨10 < f
 ·have e1:geS c f=[]:=if_pos hbad
  have e2:geOk c f=false:=decide_eq_false (by omega)
  rw [e1,e2]
  by_cases h6:6 < c
  ·go_enter Tryz.func304,Tryz.ntmps304
   go_wp2
   go_ret2
   exact Ret.mk' rfl (by repeat (first|exact Below.refl _ _|assumption|refine bel_drewN ?_ _|refine Below.drew ?_|refine bel_alloc ?_ _|refine Below.setCell ?_ (by first|omega|(simp;done)|(simp;omega)) _|refine bel_step ?_ (by assumption)))
  ·have h10:10 < f:=by omega
   go_enter Tryz.func304,Tryz.ntmps304
   go_wp2
   go_ret2
   exact Ret.mk' rfl (by repeat (first|exact Below.refl _ _|assumption|refine bel_drewN ?_ _|refine Below.drew ?_|refine bel_alloc ?_ _|refine Below.setCell ?_ (by first|omega|(simp;done)|(simp;omega)) _|refine bel_step ?_ (by assumption)))
 ·have e2:geOk c f=true:=decide_eq_true (by omega)
  have k1:¬ 6 < c:=by omega
  have k2:¬ 10 < f:=by omega
  by_cases h6:c=6
  ·subst h6
   by_cases h0:f=0
   ·subst h0
    rw [e2]
    go_enter Tryz.func304,Tryz.ntmps304
    go_wp2
    go_ret2
    exact Ret.mk' rfl (by repeat (first|exact Below.refl _ _|assumption|refine bel_drewN ?_ _|refine Below.drew ?_|refine bel_alloc ?_ _|refine Below.setCell ?_ (by first|omega|(simp;done)|(simp;omega)) _|refine bel_step ?_ (by assumption)))
   ·have e1:geS 6 f=cut [65,66,67,68,69,70,71,72,73,75] (f - 1) f:=by unfold geS;rw [if_neg hbad,if_pos rfl,if_neg h0]
    have hb2:(f == 0)=false:=by simp;omega
    have g0:0≤f - 1:=by omega
    have g0':1≤f:=by omega
    have g1:f - 1≤f:=by omega
    have g2:f≤10:=by omega
    rw [e1,e2]
    go_enter Tryz.func304,Tryz.ntmps304
    go_wp2
    go_ret2
    exact Ret.mk' rfl (by repeat (first|exact Below.refl _ _|assumption|refine bel_drewN ?_ _|refine Below.drew ?_|refine bel_alloc ?_ _|refine Below.setCell ?_ (by first|omega|(simp;done)|(simp;omega)) _|refine bel_step ?_ (by assumption)))
  ·have hb1:(c == 6)=false:=by simp;omega
   by_cases h0:f=0
   ·subst h0
    have e1:geS c 0=dig2 (6 - c).toNat:=by unfold geS;rw [if_neg hbad,if_neg h6,if_pos rfl]
    rw [e1,e2]
    go_enter Tryz.func304,Tryz.ntmps304
    go_wp2_with (go_at_call 76;refine (itoa_any _ _ (by omega) (by omega)).mono ?_;rintro e w' ⟨rfl,rfl⟩)
    go_ret2
    exact Ret.mk' rfl (by repeat (first|exact Below.refl _ _|assumption|refine bel_drewN ?_ _|refine Below.drew ?_|refine bel_alloc ?_ _|refine Below.setCell ?_ (by first|omega|(simp;done)|(simp;omega)) _|refine bel_step ?_ (by assumption)))
   ·exact ge_symbol_t c f w ⟨hc0,by omega⟩ ⟨by omega,by omega⟩
end Go.Proofs.YtkgnmddakiagbaaGreatDoor
namespace Go.Proofs.YtkgnmddakiagbaaGreatDoor
def pS(s c f:Int):List UInt8:=if s=1 then frS c f else if s=2 then itS c f else if s=3 then spS c f else geS c f
def pOk(s c f:Int):Bool:=if s=1 then frOk c f else if s=2 then itOk c f else if s=3 then spOk c f else geOk c f
def symOne(s c f:Nat):Bool:=(pOk s c f == !(rS s c f).isEmpty) && (!pOk s c f || pS s c f == rS s c f)
theorem symAll:((List.range' 1 4).all fun s=>(List.range' 1 14).all fun c=>(List.range 19).all fun f=>symOne s c f)=true:=by
 decide +kernel
theorem sym_law (s c f:Int)(hs:1≤s∧s≤4)(hc:1≤c∧c≤14)(hf:0≤f∧f≤18) :
  pOk s c f=!(rS s c f).isEmpty∧(pOk s c f=true→pS s c f=rS s c f):=by
 obtain⟨s,rfl⟩:=Int.eq_ofNat_of_zero_le (show 0≤s by omega)
 obtain⟨c,rfl⟩:=Int.eq_ofNat_of_zero_le (show 0≤c by omega)
 obtain⟨f,rfl⟩:=Int.eq_ofNat_of_zero_le hf.1
 have h:=symAll
 rw [List.all_eq_true]at h
 have h1:=h s (List.mem_range'_1.2 (by omega))
 rw [List.all_eq_true]at h1
 have h2:=h1 c (List.mem_range'_1.2 (by omega))
 rw [List.all_eq_true]at h2
 have h3:=h2 f (List.mem_range.2 (by omega))
 unfold symOne at h3
 simp only [Bool.and_eq_true,beq_iff_eq,Bool.or_eq_true,Bool.not_eq_true']at h3
 refine⟨h3.1,fun hk=>?_⟩
 rcases h3.2 with h4|h4
 ·rw [hk]at h4;cases h4
 ·exact h4
end Go.Proofs.YtkgnmddakiagbaaGreatDoor
namespace Go.Proofs.YtkgnmddakiagbaaGreatDoor
def rR(s n:Int):List UInt8:=if n=1∧s≠3 then [46]else if n=2∧s=1 then [58]else if n=3∧s=1 then [39]else []
def rG(s n:Int):List UInt8 :=
 if s=1∧1≤n∧n≤4 then cut [44,94,35,40] (n-1) n else if s=2∧n=1 then [116] else if(s=2∨s=4)∧n=3 then [35] else []
def rH(s n L:Int):List UInt8:=if s=1 then 95::dig2 n.toNat else if(s=2∨s=4)∧n=L then [42]else []
def pH(s n L:Int):List UInt8:=if n=0 then []else rH s n L
def okR(s n:Int):Bool:=n == 0 || !(rR s n).isEmpty
def okG(s n:Int):Bool:=n == 0 || !(rG s n).isEmpty
def okH(s n L:Int):Bool:=n == 0 || !(rH s n L).isEmpty
def cellS(s c f r g h L:Int):List UInt8:=pS s c f++rR s r++rG s g++pH s h L
def cellOk(s c f r g h L:Int):Bool:=pOk s c f && okR s r && okG s g && okH s h L
theorem rR_len(s n:Int):(rR s n).length≤1:=by
 unfold rR;split
 ·decide
 ·split
  ·decide
  ·split<;>decide
theorem rG_len(s n:Int):(rG s n).length≤4:=by
 unfold rG;split
 ·exact cut_length _ _ _
 ·split
  ·decide
  ·split<;>decide
theorem dig2_len(n:Nat):(dig2 n).length≤2:=by unfold dig2;split<;>simp
theorem rH_len(s n L:Int):(rH s n L).length≤3:=by
 unfold rH;split
 ·have:=dig2_len n.toNat;simp;omega
 ·split<;>decide
theorem pH_len(s n L:Int):(pH s n L).length≤3:=by
 unfold pH;split
 ·decide
 ·exact rH_len s n L
theorem symLenAll:((List.range' 1 4).all fun s=>(List.range' 1 14).all fun c=>(List.range 19).all fun f=>decide ((pS (s:Nat) (c:Nat) (f:Nat)).length≤4∧(rS (s:Nat) (c:Nat) (f:Nat)).length≤4))=true:=by
 decide +kernel
theorem pS_len (s c f:Int)(hs:1≤s∧s≤4)(hc:1≤c∧c≤14)(hf:0≤f∧f≤18):(pS s c f).length≤4∧(rS s c f).length≤4:=by
 obtain⟨s,rfl⟩:=Int.eq_ofNat_of_zero_le (show 0≤s by omega)
 obtain⟨c,rfl⟩:=Int.eq_ofNat_of_zero_le (show 0≤c by omega)
 obtain⟨f,rfl⟩:=Int.eq_ofNat_of_zero_le hf.1
 have h:=symLenAll
 rw [List.all_eq_true]at h
 have h1:=h s (List.mem_range'_1.2 (by omega))
 rw [List.all_eq_true]at h1
 have h2:=h1 c (List.mem_range'_1.2 (by omega))
 rw [List.all_eq_true]at h2
 exact of_decide_eq_true (h2 f (List.mem_range.2 (by omega)))
end Go.Proofs.YtkgnmddakiagbaaGreatDoor
namespace Go.Proofs.YtkgnmddakiagbaaGreatDoor
open Go.RowKit
def lineV(s c n:Int):Int:=if s=4 then 0 else if s=2 then n+1-c else c
theorem insE_len {cs:List (Int×Int×Bool)} {st:List Int} (h:insE cs st=0):1≤cs.length∧cs.length≤14∧st.length≤18∧stepsBad 0 st=false∧crsE st cs=0:=by
 unfold insE at h
 by_cases h1:14<cs.length∨18<st.length
 ·rw [if_pos h1]at h;cases h
 ·rw [if_neg h1]at h
  by_cases h2:cs.length=0
  ·rw [if_pos h2]at h;cases h
  ·rw [if_neg h2]at h
   by_cases h3:stepsBad 0 st=true
   ·rw [if_pos h3]at h;cases h
   ·rw [if_neg h3]at h
    exact⟨by omega,by omega,by omega,by simpa using h3,h⟩
end Go.Proofs.YtkgnmddakiagbaaGreatDoor
namespace Go.Proofs.YtkgnmddakiagbaaGreatDoor
open Go.RowKit
set_option maxHeartbeats 1600000
set_option maxRecDepth 100000
attribute [local go_sem]mk_bs bs_size bs_toList bs_append bs_extract
attribute [local simp]run_cut run_cut_to run_cut_from run_add_bs
theorem of_bad (n:Int)(w:World)(h:n<1∨4<n):Calls Tryz.prog 44 #[.int .u8 n] w fun e w'=>e=.returned (.tuple #[.nilIface,.bool false])∧w=w':=by
 have h1:(n == 1)=false:=by simp;omega
 have h2:(n == 2)=false:=by simp;omega
 have h3:(n == 3)=false:=by simp;omega
 have h4:(n == 4)=false:=by simp;omega
 go_enter Tryz.func44,Tryz.ntmps44
 go_wp2
 go_ret2
 exact⟨rfl,rfl⟩
theorem psym_1 (c f:Int)(w:World)(hc:1≤c∧c≤14)(hf:0≤f∧f≤18) :
  Calls Tryz.prog 274 #[.agg #[],.agg #[.int .i64 c,.int .i64 f]] w (Ret (.tuple #[.string (bs (pS 1 c f)),.bool (pOk 1 c f)]) w):=fr_symbol c f w hc hf
theorem psym_2 (c f:Int)(w:World)(hc:1≤c∧c≤14)(hf:0≤f∧f≤18) :
  Calls Tryz.prog 289 #[.agg #[],.agg #[.int .i64 c,.int .i64 f]] w (Ret (.tuple #[.string (bs (pS 2 c f)),.bool (pOk 2 c f)]) w):=it_symbol c f w hc hf
theorem psym_3 (c f:Int)(w:World)(hc:1≤c∧c≤14)(hf:0≤f∧f≤18) :
  Calls Tryz.prog 297 #[.agg #[],.agg #[.int .i64 c,.int .i64 f]] w (Ret (.tuple #[.string (bs (pS 3 c f)),.bool (pOk 3 c f)]) w):=sp_symbol c f w hf
theorem psym_4 (c f:Int)(w:World)(hc:1≤c∧c≤14)(hf:0≤f∧f≤18) :
  Calls Tryz.prog 304 #[.agg #[],.agg #[.int .i64 c,.int .i64 f]] w (Ret (.tuple #[.string (bs (pS 4 c f)),.bool (pOk 4 c f)]) w):=ge_symbol c f w hc hf
end Go.Proofs.YtkgnmddakiagbaaGreatDoor
namespace Go.Proofs.YtkgnmddakiagbaaGreatDoor
open Go.Shelf Go.RowKit
set_option maxRecDepth 100000
def joinRen:Go.Shelf.Ren:=⟨fun|156=>74|165=>144|166=>48|169=>50|240=>121|241=>183|276=>174|277=>209|n=>n,fun|0=>0|3=>3|4=>4|9=>9|20=>20|31=>132|37=>93|70=>92|72=>95|75=>97|76=>98|127=>203|164=>258|5=>5|80=>100|n=>n,fun|n=>n⟩
theorem joinLays:Go.Proofs.Lays.n156 Tryz.prog joinRen:={
 mixed:=by kernel_rfl
 f156:=Tryz.func74.trans (congrArg some (by kernel_rfl))
 f165:=Tryz.func144.trans (congrArg some (by kernel_rfl))
 f166:=Tryz.func48.trans (congrArg some (by kernel_rfl))
 f169:=Tryz.func50.trans (congrArg some (by kernel_rfl))
 f240:=Tryz.func121.trans (congrArg some (by kernel_rfl))
 f241:=Tryz.func183.trans (congrArg some (by kernel_rfl))
 f276:=Tryz.func174.trans (congrArg some (by kernel_rfl))
 f277:=Tryz.func209.trans (congrArg some (by kernel_rfl))
 t0:=Tryz.underlying0
 a0:=Tryz.isAgg0
 z0:=Tryz.sizeOf0
 v0:=Tryz.zeroValue0
 t3:=Tryz.underlying3
 a3:=Tryz.isAgg3
 z3:=Tryz.sizeOf3
 v3:=Tryz.zeroValue3
 t4:=Tryz.underlying4
 a4:=Tryz.isAgg4
 z4:=Tryz.sizeOf4
 v4:=Tryz.zeroValue4
 t9:=Tryz.underlying9
 a9:=Tryz.isAgg9
 z9:=Tryz.sizeOf9
 v9:=Tryz.zeroValue9
 t20:=Tryz.underlying20
 a20:=Tryz.isAgg20
 z20:=Tryz.sizeOf20
 v20:=Tryz.zeroValue20
 t31:=Tryz.underlying132
 a31:=Tryz.isAgg132
 z31:=Tryz.sizeOf132
 v31:=Tryz.zeroValue132
 t37:=Tryz.underlying93
 a37:=Tryz.isAgg93
 z37:=Tryz.sizeOf93
 v37:=Tryz.zeroValue93
 t70:=Tryz.underlying92
 a70:=Tryz.isAgg92
 z70:=Tryz.sizeOf92
 v70:=Tryz.zeroValue92
 t72:=Tryz.underlying95
 a72:=Tryz.isAgg95
 z72:=Tryz.sizeOf95
 v72:=Tryz.zeroValue95
 t75:=Tryz.underlying97
 a75:=Tryz.isAgg97
 z75:=Tryz.sizeOf97
 v75:=Tryz.zeroValue97
 t76:=Tryz.underlying98
 a76:=Tryz.isAgg98
 z76:=Tryz.sizeOf98
 v76:=Tryz.zeroValue98
 t127:=Tryz.underlying203
 a127:=Tryz.isAgg203
 z127:=Tryz.sizeOf203
 v127:=Tryz.zeroValue203
 t164:=Tryz.underlying258
 a164:=Tryz.isAgg258
 z164:=Tryz.sizeOf258
 v164:=Tryz.zeroValue258 }
theorem joinExtra:Builder.Extra Tryz.prog joinRen:={
 sizeBuilder:=by kernel_rfl
 liesBuilder:=by kernel_rfl
 t5:=Tryz.underlying5
 a5:=Tryz.isAgg5
 z5:=Tryz.sizeOf5
 v5:=Tryz.zeroValue5
 infoByte:=by kernel_rfl
 cellsByte:=by kernel_rfl
 sizeByte:=by kernel_rfl
 neB5:=by decide }
theorem strings_Join_none (a:Option Addr) (c:Nat) (sep:ByteArray) (w:World) :
  Calls Tryz.prog 74 #[.slice a 0 c,.string sep] w fun e w'=>e=.returned (.string ⟨#[]⟩)∧w'=w:=Any.strings_Join_none joinLays joinExtra a c sep w
theorem strings_Join (bk o c:Nat) (xs:List ByteArray) (sep:ByteArray) (w:World) (hcells:∀ (j:Nat) x,xs[j]?=some x→w.cell? ⟨bk,o+j,none⟩=some (.string x)) (hbk:bk<w.heap.size) (hN:xs.length≤140737488355328) (hcap:xs.length≤c) (hlen:(Lib.join (xs.map (·.data.toList)) sep.data.toList).length≤140737488355328) :
  Calls Tryz.prog 74 #[.slice (some ⟨bk,o,none⟩) xs.length c,.string sep] w fun e w'=>e=.returned (.string ⟨(Lib.join (xs.map (·.data.toList)) sep.data.toList).toArray⟩)∧Below w.heap.size w w':=Any.strings_Join joinLays joinExtra bk o c xs sep w hcells hbk hN hcap hlen
end Go.Proofs.YtkgnmddakiagbaaGreatDoor
namespace Go.Proofs.YtkgnmddakiagbaaGreatDoor
open Go.RowKit
set_option maxHeartbeats 1600000
set_option maxRecDepth 100000
attribute [local go_sem]mk_bs bs_size bs_toList bs_append bs_extract
attribute [local simp]run_cut run_cut_to run_cut_from run_add_bs
theorem of_1 (w:World):Calls Tryz.prog 44 #[.int .u8 1] w fun e w'=>e=.returned (.tuple #[(.iface 187 (.agg #[])),.bool true])∧w=w':=by
 go_enter Tryz.func44,Tryz.ntmps44
 go_wp2
 go_ret2
 exact⟨rfl,rfl⟩
end Go.Proofs.YtkgnmddakiagbaaGreatDoor
