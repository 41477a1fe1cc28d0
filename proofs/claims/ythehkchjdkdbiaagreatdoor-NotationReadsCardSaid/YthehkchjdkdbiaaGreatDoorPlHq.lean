/- Systems, and where a course stands: the program. -/
import Derived.Test.YthehkchjdkdbiaaGreatDoorRefHq
import Derived.Test.YthehkchjdkdbiaaGreatDoorShelfHq
import Derived.Deep.RegionHeld3
set_option maxHeartbeats 1600000
set_option maxRecDepth 100000
set_option linter.unusedVariables false
set_option linter.unusedSimpArgs false
namespace Go.Proofs.YthehkchjdkdbiaaGreatDoor
section
open Go.RowKit
def intCell(x:Int):List Value:=[.int .i64 x]
def crsCells(x:Int×Int×Bool):List Value:=[.int .i64 x.1,.int .i64 x.2.1,.bool x.2.2]
def stepsBad (last:Int):List Int→Bool
 | []=>false
 | x::r=>decide (x≤last∨127<x)|| stepsBad x r
def topOf (st:List Int)(x:Int×Int×Bool):Int:=(x.1+if 0<x.2.1 then st.getD (x.2.1.toNat-1) 0 else 0)+if x.2.2 then 12 else 0
def crsE (st:List Int):List (Int×Int×Bool)→Int
 | []=>0
 | x::r=>if x.2.1<0∨(st.length:Int)<x.2.1 then 13 else if (x.1<0∨127<x.1)∨127<topOf st x then 10 else crsE st r
def insE (cs:List (Int×Int×Bool))(st:List Int):Int :=
 if 14<cs.length∨18<st.length then 2 else if cs.length=0 then 11 else if stepsBad 0 st=true then 11 else crsE st cs
theorem stepsBad_at {last:Int} {st:List Int} {k:Nat} (h:k<st.length):stepsBad last (st.drop k)=(decide (st[k]≤last∨127<st[k])|| stepsBad st[k] (st.drop (k+1))):=by
 rw [List.drop_eq_getElem_cons h];rfl
theorem crsE_at {st:List Int} {cs:List (Int×Int×Bool)} {k:Nat} (h:k<cs.length) :
  crsE st (cs.drop k)=if cs[k].2.1<0∨(st.length:Int)<cs[k].2.1 then 13 else if (cs[k].1<0∨127<cs[k].1)∨127<topOf st cs[k]then 10 else crsE st (cs.drop (k+1)):=by
 rw [List.drop_eq_getElem_cons h];rfl
theorem stepsBad_bd:∀ {st:List Int} {last:Int},0≤last→stepsBad last st=false→∀ k (h:k<st.length),1≤st[k]∧st[k]≤127:=by
 intro st
 induction st with
 | nil=>intro last _ _ k h;simp at h
 | cons x r ih =>
  intro last h0 hb k h
  unfold stepsBad at hb
  rw [Bool.or_eq_false_iff] at hb
  have hx:=of_decide_eq_false hb.1
  cases k with
  | zero=>simp only [List.getElem_cons_zero];omega
  | succ k=>simp only [List.getElem_cons_succ];exact ih (by omega) hb.2 k (by simpa using h)
def InsAt (w:World)(B:Nat)(A1 A2:Option Addr)(cs:List (Int×Int×Bool))(st:List Int):Prop:=Rd w B 3 A1 (cs.map crsCells)∧Rd w B 1 A2 (st.map intCell)
section
variable {w w':World} {B B':Nat} {A1 A2:Option Addr} {cs:List (Int×Int×Bool)} {st:List Int}
theorem InsAt.keep(h:InsAt w B A1 A2 cs st)(hk:∀ p:Addr,p.block<B→w'.cell? p=w.cell? p):InsAt w' B A1 A2 cs st:=⟨h.1.keep hk,h.2.keep hk⟩
theorem InsAt.below(h:InsAt w B A1 A2 cs st)(hb:Below B w w'):InsAt w' B A1 A2 cs st:=h.keep fun _ hp=>hb.cell hp
theorem InsAt.alloc (h:InsAt w B A1 A2 cs st)(hB:B≤w.heap.size)(o:Obj):InsAt (w.alloc o) B A1 A2 cs st:=⟨h.1.alloc hB o,h.2.alloc hB o⟩
theorem InsAt.step {k:Nat} (h:InsAt w B A1 A2 cs st) (hk:k<st.length):∃ ad,A2=some ad∧ad.block<B∧w.cell? (ad.add k)=some (.int .i64 st[k]):=by
 obtain ⟨ad,e,hb,hc⟩:=h.2.at_ (k:=k) (by simpa using hk)
 refine ⟨ad,e,hb,?_⟩
 have:=hc 0 (.int .i64 st[k]) (by simp [intCell])
 simpa using this
theorem InsAt.crs {k:Nat} (h:InsAt w B A1 A2 cs st) (hk:k<cs.length):∃ ad,A1=some ad∧ad.block<B∧w.cell? (ad.add (k*3))=some (.int .i64 cs[k].1)∧w.cell? ⟨(ad.add (k*3)).block,(ad.add (k*3)).off+1,none⟩=some (.int .i64 cs[k].2.1)∧w.cell? ⟨(ad.add (k*3)).block,(ad.add (k*3)).off+2,none⟩=some (.bool cs[k].2.2):=by
 obtain ⟨ad,e,hb,hc⟩:=h.1.at_ (k:=k) (by simpa using hk)
 refine ⟨ad,e,hb,?_,?_,?_⟩
 ·have:=hc 0 (.int .i64 cs[k].1) (by simp [crsCells]);simpa using this
 ·rw [← add_field _ _ _ (by omega)];exact hc 1 (.int .i64 cs[k].2.1) (by simp [crsCells])
 ·rw [← add_field _ _ _ (by omega)];exact hc 2 (.bool cs[k].2.2) (by simp [crsCells])
end
end
section
open Go.RowKit
attribute [local go_sem]mk_bs bs_size bs_toList bs_append bs_extract
attribute [local simp]run_cut run_cut_to run_cut_from run_add_bs
def dig2 (u:Nat):List UInt8:=if u<10 then [UInt8.ofNat (48+u)]else [UInt8.ofNat (48+u/10),UInt8.ofNat (48+u % 10)]
theorem decDigits_dig2 (u:Nat)(h:u<100):Lib.decDigits u=dig2 u:=by
 unfold dig2
 by_cases h1:u<10
 ·rw [if_pos h1,Lib.decDigits,dif_pos h1]
 ·rw [if_neg h1,Lib.decDigits,dif_neg h1,Lib.decDigits,dif_pos (by omega)];rfl
theorem itoa_any (n:Int)(w:World)(h0:0≤n)(h1:n<100) :
  Calls Tryz.prog 108 #[.int .i64 n] w fun e w'=>e=.returned (.string (bs (dig2 n.toNat)))∧w'=w:=by
 obtain⟨k,rfl⟩:=Int.eq_ofNat_of_zero_le h0
 rw [Int.toNat_natCast,← decDigits_dig2 k (by omega)]
 exact Tryz.strconv_Itoa_small k zqo w
theorem repeat_any (l:List UInt8) (c:Int) (w:World) (h0:0≤c) (h1:c≤100) (h2:l.length≤100) :
  Calls Tryz.prog 323 #[.string (bs l),.int .i64 c] w (Ret (.string (bs (Lib.repeatL l c.toNat))) w):=by
 obtain ⟨k,rfl⟩:=Int.eq_ofNat_of_zero_le h0
 have hk:l.length*k≤100*100:=Nat.mul_le_mul h2 zqo
 exact Tryz.strings_Repeat (bs l) k w (by omega) (by rw [bs_size];omega)
def frS (c f:Int):List UInt8 :=
 if 11≤c then dig2 (c-7).toNat else Lib.repeatL [47] (max (c-7) 0).toNat++cut [97,98,99,100,101,102,103,104,105,107,108,109,110,111,112,113,114,115,116] f (f+1)
def frOk(c f:Int):Bool:=if 11≤c then f == 0 else true
theorem fr_symbol_low (c f:Int) (w:World) (hc:11≤c) (hc':c≤14) (hf:0≤f) (hf':f≤18) :
  Calls Tryz.prog 321 #[.agg #[],.agg #[.int .i64 c,.int .i64 f]] w (Ret (.tuple #[.string (bs (frS c f)),.bool (frOk c f)]) w):=by
 have e1:frS c f=dig2 (c - 7).toNat:=if_pos hc
 have e2:frOk c f=(f == 0):=if_pos hc
 rw [e1,e2]
 go_enter Tryz.func321,Tryz.ntmps321
 go_wp2
 go_quiet ((go_at_call 108;exact Calls.quiet_of_same (itoa_any _ _ zqo zqo)))
 go_wp2
 go_ret2
 exact Ret.mk' rfl zqb
theorem fr_symbol_high (c f:Int) (w:World) (hc:1≤c) (hc':c≤10) (hf:0≤f) (hf':f≤18) :
  Calls Tryz.prog 321 #[.agg #[],.agg #[.int .i64 c,.int .i64 f]] w (Ret (.tuple #[.string (bs (frS c f)),.bool (frOk c f)]) w):=by
 have e1:frS c f=Lib.repeatL [47] (max (c - 7) 0).toNat++cut [97,98,99,100,101,102,103,104,105,107,108,109,110,111,112,113,114,115,116] f (f+1):=if_neg zqo
 have e2:frOk c f=true:=if_neg zqo
 have m0:0≤max (c - 7) 0:=by omega
 have m1:max (c - 7) 0≤100:=by omega
 have hsz:(Lib.repeatL [47] (max (c - 7) 0).toNat).length≤100:=by simp [Lib.repeatL_length];omega
 have g0:0≤f+1:=by omega
 have g1:f+1≤19:=by omega
 have g2:(Lib.repeatL [47] (max (c - 7) 0).toNat).length+(cut [97,98,99,100,101,102,103,104,105,107,108,109,110,111,112,113,114,115,116] f (f+1)).length≤9223372036854775807:=by
  have:=cut_length [97,98,99,100,101,102,103,104,105,107,108,109,110,111,112,113,114,115,116] f (f+1)
  simp at this;omega
 have g3:f≤f+1:=by omega
 have hc11:¬ 11≤c:=by omega
 have e7:IntKind.i64.wrap (c - 7)=c - 7:=IntWalk.i64_in _ zqo
 have e8:IntKind.i64.wrap (f+1)=f+1:=IntWalk.i64_in _ zqo
 rw [e1,e2]
 go_enter Tryz.func321,Tryz.ntmps321
 go_wp2
 go_region_held3 (fun w'=>w'.cell? ⟨w.heap.size+1,0,none⟩=some (.int .i64 c)∧w'.cell? ⟨w.heap.size+1,1,none⟩=some (.int .i64 f))
  (first|(simp [bc];done)|go_keep)
  ((go_at_call 323;refine (repeat_any _ _ _ m0 m1 (by simp)).mono ?_;rintro e w' ⟨rfl,hb⟩;obtain ⟨bc,bf⟩:=bcell hb))
 go_wp2
 go_ret2
 exact Ret.mk' rfl zqb
theorem fr_symbol (c f:Int)(w:World)(hc:1≤c∧c≤14)(hf:0≤f∧f≤18) :
  Calls Tryz.prog 321 #[.agg #[],.agg #[.int .i64 c,.int .i64 f]] w (Ret (.tuple #[.string (bs (frS c f)),.bool (frOk c f)]) w):=by
 by_cases h:11≤c
 ·exact fr_symbol_low c f w h hc.2 hf.1 hf.2
 ·exact fr_symbol_high c f w hc.1 zqo hf.1 hf.2
def figS(f:Int):List UInt8:=if f≤9 then dig2 f.toNat else if f=10 then [120]else []
def figOk (f:Int):Bool:=decide (f≤10)
theorem figure_any (f:Int) (w:World) (hf:0≤f∧f≤18) :
  Calls Tryz.prog 328 #[.agg #[],.int .i64 f] w (Ret (.tuple #[.string (bs (figS f)),.bool (figOk f)]) w):=by
 obtain ⟨h0,h1⟩:=hf
 by_cases h9:f≤9
 ·have e1:figS f=dig2 f.toNat:=if_pos h9
  have e2:figOk f=true:=decide_eq_true zqo
  rw [e1,e2]
  go_enter Tryz.func328,Tryz.ntmps328
  go_wp2_with (go_at_call 108;refine (itoa_any _ _ zqo zqo).mono ?_;rintro e w' ⟨rfl,rfl⟩)
  go_ret2
  exact Ret.mk' rfl zqb
 ·by_cases h10:f=10
  ·subst h10
   go_enter Tryz.func328,Tryz.ntmps328
   go_wp2
   go_ret2
   exact Ret.mk' rfl zqb
  ·have e1:figS f=[]:=by unfold figS;rw [if_neg h9,if_neg h10]
   have e2:figOk f=false:=decide_eq_false zqo
   have hb:(f == 10)=false:=by simp;exact h10
   rw [e1,e2]
   go_enter Tryz.func328,Tryz.ntmps328
   go_wp2
   go_ret2
   exact Ret.mk' rfl zqb
def itS(c f:Int):List UInt8:=if c≤6 then figS f else if c=10 then [120]else dig2 c.toNat
def itOk(c f:Int):Bool:=if c≤6 then figOk f else f == 0
theorem it_symbol (c f:Int) (w:World) (hc:1≤c∧c≤14) (hf:0≤f∧f≤18) :
  Calls Tryz.prog 336 #[.agg #[],.agg #[.int .i64 c,.int .i64 f]] w (Ret (.tuple #[.string (bs (itS c f)),.bool (itOk c f)]) w):=by
 obtain ⟨hc0,hc1⟩:=hc
 have hp:∀ (w:World) (o:Obj),(partAt ⟨w.heap.size,0,none⟩ 0 0).run Tryz.prog ((w.alloc (.cells #[] 174)).alloc o)=.ok ⟨w.heap.size,0,none⟩ ((w.alloc (.cells #[] 174)).alloc o) :=
  fun w o=>run_partAt_zero _ _ _ _ (heap_alloc2 w _ o) zqk
 by_cases h6:c≤6
 ·have e1:itS c f=figS f:=if_pos h6
  have e2:itOk c f=figOk f:=if_pos h6
  rw [e1,e2]
  go_enter Tryz.func336,Tryz.ntmps336
  go_wp2_with (go_at_call 328;refine (figure_any _ _ hf).mono ?_;rintro e w' ⟨rfl,hb⟩)
  go_ret2
  exact Ret.mk' rfl zqb
 ·have e2:itOk c f=(f == 0):=if_neg h6
  by_cases h10:c=10
  ·subst h10
   rw [e2]
   go_enter Tryz.func336,Tryz.ntmps336
   go_wp2
   go_quiet (fail)
   go_wp2
   go_ret2
   exact Ret.mk' rfl zqb
  ·have e1:itS c f=dig2 c.toNat:=by unfold itS;rw [if_neg h6,if_neg h10]
   have hb:(c == 10)=false:=by simp;exact h10
   rw [e1,e2]
   go_enter Tryz.func336,Tryz.ntmps336
   go_wp2
   go_quiet ((go_at_call 108;exact Calls.quiet_of_same (itoa_any _ _ zqo zqo)))
   go_wp2
   go_ret2
   exact Ret.mk' rfl zqb
def spS(c f:Int):List UInt8:=if c≤6 then figS f else []
def spOk(c f:Int):Bool:=if c≤6 then figOk f else false
theorem sp_symbol (c f:Int) (w:World) (hf:0≤f∧f≤18) :
  Calls Tryz.prog 344 #[.agg #[],.agg #[.int .i64 c,.int .i64 f]] w (Ret (.tuple #[.string (bs (spS c f)),.bool (spOk c f)]) w):=by
 have hp:∀ (w:World) (o:Obj),(partAt ⟨w.heap.size,0,none⟩ 0 0).run Tryz.prog ((w.alloc (.cells #[] 176)).alloc o)=.ok ⟨w.heap.size,0,none⟩ ((w.alloc (.cells #[] 176)).alloc o) :=
  fun w o=>run_partAt_zero _ _ _ _ (heap_alloc2 w _ o) zqk
 by_cases h6:c≤6
 ·have e1:spS c f=figS f:=if_pos h6
  have e2:spOk c f=figOk f:=if_pos h6
  have h6':¬ 6 < c:=by omega
  rw [e1,e2]
  go_enter Tryz.func344,Tryz.ntmps344
  go_wp2_with (go_at_call 328;refine (figure_any _ _ hf).mono ?_;rintro e w' ⟨rfl,hb⟩)
  go_ret2
  exact Ret.mk' rfl zqb
 ·have e1:spS c f=[]:=if_neg h6
  have e2:spOk c f=false:=if_neg h6
  have h6':6 < c:=by omega
  rw [e1,e2]
  go_enter Tryz.func344,Tryz.ntmps344
  go_wp2
  go_ret2
  exact Ret.mk' rfl zqb
def small:List UInt8:=[97,98,99,100,101,102,103,104,105,107,108,109,110,111,112,113,114,115,116,118,120,121,122,38,57]
def geAt(c f:Int):Int:=(f-1) % 5*5+5-c
def geS (c f:Int):List UInt8 :=
 if 6<c∨10<f then [] else if c=6 then (if f=0 then [43] else cut [65,66,67,68,69,70,71,72,73,75] (f-1) f)
 else if f=0 then dig2 (6-c).toNat else Lib.repeatL (cut small (geAt c f) (geAt c f+1)) ((f+4)/5).toNat
def geOk (c f:Int):Bool:=decide (c≤6∧f≤10)
theorem ge_symbol_t (c f:Int) (w:World) (hc:1≤c∧c≤5) (hf:1≤f∧f≤10) :
  Calls Tryz.prog 351 #[.agg #[],.agg #[.int .i64 c,.int .i64 f]] w (Ret (.tuple #[.string (bs (geS c f)),.bool (geOk c f)]) w):=by
 obtain ⟨hc0,hc1⟩:=hc
 obtain ⟨hf0,hf1⟩:=hf
 have e1:geS c f=Lib.repeatL (cut small (geAt c f) (geAt c f+1)) ((f+4)/5).toNat:=by
  unfold geS;rw [if_neg (by omega),if_neg (by omega),if_neg (by omega)]
 have e2:geOk c f=true:=decide_eq_true zqo
 rw [e1,e2]
 unfold geAt small
 have hb1:(c == 6)=false:=by simp;omega
 have hb2:(f == 0)=false:=by simp;omega
 have g0:0≤(f - 1) % 5*5+5 - c:=by omega
 have g0':c≤(f - 1) % 5*5+5:=by omega
 have g2':(f - 1) % 5*5+5 - c≤24:=by omega
 have g1:(f - 1) % 5*5+5 - c≤(f - 1) % 5*5+5 - c+1:=by omega
 have g2:(f - 1) % 5*5+5 - c+1≤25:=by omega
 have g3:0≤f+4:=by omega
 have q0:0≤(f+4)/5:=by omega
 have q1:(f+4)/5≤100:=by omega
 have ql:=cut_length [97,98,99,100,101,102,103,104,105,107,108,109,110,111,112,113,114,115,116,118,120,121,122,38,57] ((f - 1) % 5*5+5 - c) ((f - 1) % 5*5+5 - c+1)
 have ql':(cut [97,98,99,100,101,102,103,104,105,107,108,109,110,111,112,113,114,115,116,118,120,121,122,38,57] ((f - 1) % 5*5+5 - c) ((f - 1) % 5*5+5 - c+1)).length≤100:=Nat.le_trans ql (by decide)
 clear ql
 have w1:IntKind.i64.wrap ((f - 1) % 5*5+5 - c+1)=(f - 1) % 5*5+5 - c+1:=IntWalk.i64_in _ zqo
 have w2:IntKind.i64.wrap (f+4)=f+4:=IntWalk.i64_in _ zqo
 have w3:IntKind.i64.wrap ((f+4).tdiv 5)=(f+4)/5:=by rw [Int.tdiv_eq_ediv_of_nonneg (by omega)];exact IntWalk.i64_in _ (by omega)
 go_enter Tryz.func351,Tryz.ntmps351
 go_wp2
 go_region_held3 (fun w'=>w'.cell? ⟨w.heap.size+1,0,none⟩=some (.int .i64 c)∧w'.cell? ⟨w.heap.size+1,1,none⟩=some (.int .i64 f))
  (first|(simp [bc];done)|go_keep)
  ((go_at_call 323;refine (repeat_any _ _ _ q0 q1 ql').mono ?_;rintro e w' ⟨rfl,hb⟩;obtain ⟨bc,bf⟩:=bcell hb))
 go_wp2
 go_ret2
 exact Ret.mk' rfl zqb
theorem ge_symbol (c f:Int) (w:World) (hc:1≤c∧c≤14) (hf:0≤f∧f≤18) :
  Calls Tryz.prog 351 #[.agg #[],.agg #[.int .i64 c,.int .i64 f]] w (Ret (.tuple #[.string (bs (geS c f)),.bool (geOk c f)]) w):=by
 obtain ⟨hc0,hc1⟩:=hc
 obtain ⟨hf0,hf1⟩:=hf
 by_cases hbad:6 < c∨10 < f
 ·have e1:geS c f=[]:=if_pos hbad
  have e2:geOk c f=false:=decide_eq_false zqo
  rw [e1,e2]
  by_cases h6:6 < c
  ·go_enter Tryz.func351,Tryz.ntmps351
   go_wp2
   go_ret2
   exact Ret.mk' rfl zqb
  ·have h10:10 < f:=by omega
   go_enter Tryz.func351,Tryz.ntmps351
   go_wp2
   go_ret2
   exact Ret.mk' rfl zqb
 ·have e2:geOk c f=true:=decide_eq_true zqo
  have k1:¬ 6 < c:=by omega
  have k2:¬ 10 < f:=by omega
  by_cases h6:c=6
  ·subst h6
   by_cases h0:f=0
   ·subst h0
    rw [e2]
    go_enter Tryz.func351,Tryz.ntmps351
    go_wp2
    go_ret2
    exact Ret.mk' rfl zqb
   ·have e1:geS 6 f=cut [65,66,67,68,69,70,71,72,73,75] (f - 1) f:=by unfold geS;rw [if_neg hbad,if_pos rfl,if_neg h0]
    have hb2:(f == 0)=false:=by simp;omega
    have g0:0≤f - 1:=by omega
    have g0':1≤f:=by omega
    have g1:f - 1≤f:=by omega
    have g2:f≤10:=by omega
    rw [e1,e2]
    go_enter Tryz.func351,Tryz.ntmps351
    go_wp2
    go_ret2
    exact Ret.mk' rfl zqb
  ·have hb1:(c == 6)=false:=by simp;omega
   by_cases h0:f=0
   ·subst h0
    have e1:geS c 0=dig2 (6 - c).toNat:=by unfold geS;rw [if_neg hbad,if_neg h6,if_pos rfl]
    rw [e1,e2]
    go_enter Tryz.func351,Tryz.ntmps351
    go_wp2_with (go_at_call 108;refine (itoa_any _ _ zqo zqo).mono ?_;rintro e w' ⟨rfl,rfl⟩)
    go_ret2
    exact Ret.mk' rfl zqb
   ·exact ge_symbol_t c f w ⟨hc0,by omega⟩ ⟨by omega,by omega⟩
end
section
def pS(s c f:Int):List UInt8:=if s=1 then frS c f else if s=2 then itS c f else if s=3 then spS c f else geS c f
def pOk(s c f:Int):Bool:=if s=1 then frOk c f else if s=2 then itOk c f else if s=3 then spOk c f else geOk c f
def symOne(s c f:Nat):Bool:=(pOk s c f == !(rS s c f).isEmpty) && (!pOk s c f|| pS s c f == rS s c f)
theorem symAll:((List.range' 1 4).all fun s=>(List.range' 1 14).all fun c=>(List.range 19).all fun f=>symOne s c f)=true:=by
 decide +kernel
theorem sym_law (s c f:Int)(hs:1≤s∧s≤4)(hc:1≤c∧c≤14)(hf:0≤f∧f≤18) :
  pOk s c f=!(rS s c f).isEmpty∧(pOk s c f=true→pS s c f=rS s c f):=by
 obtain⟨s,rfl⟩:=Int.eq_ofNat_of_zero_le (show 0≤s by omega)
 obtain⟨c,rfl⟩:=Int.eq_ofNat_of_zero_le (show 0≤c by omega)
 obtain⟨f,rfl⟩:=Int.eq_ofNat_of_zero_le hf.1
 have h:=symAll
 rw [List.all_eq_true]at h
 have h1:=h s (List.mem_range'_1.2 zqo)
 rw [List.all_eq_true]at h1
 have h2:=h1 c (List.mem_range'_1.2 zqo)
 rw [List.all_eq_true]at h2
 have h3:=h2 f (List.mem_range.2 zqo)
 unfold symOne at h3
 simp only [Bool.and_eq_true,beq_iff_eq,Bool.or_eq_true,Bool.not_eq_true']at h3
 refine⟨h3.1,fun hk=>?_⟩
 rcases h3.2 with h4|h4
 ·rw [hk]at h4;cases h4
 ·exact h4
def symErr(s c f:Int):Int :=
 if ¬ (1≤s∧s≤4)then 30 else if c<1∨14<c then 12 else if f<0∨18<f then 13 else if rS s c f=[]then 31 else 0
def symTxt(s c f:Int):List UInt8:=if symErr s c f=0 then rS s c f else []
theorem symErr_bad (s c f:Int)(hs:1≤s∧s≤4)(h:(c<1∨14<c)∨(f<0∨18<f)):symErr s c f=if c<1∨14<c then 12 else 13:=by
 unfold symErr
 rw [if_neg (fun k=>k hs)]
 by_cases hc:c<1∨14<c
 ·rw [if_pos hc,if_pos hc]
 ·rw [if_neg hc,if_neg hc,if_pos (by omega)]
def standsB (s crs c:Int):Bool:=if 0<crs then c == crs else (s == 4|| decide (6<c))
def plM(s crs:Int)(l:List UInt8)(c f:Nat):Bool:=standsB s crs c && (!(rS s c f).isEmpty && rS s c f == l)
def scanF(m:Nat→Bool)(f n:Nat):Option Nat:=(List.range' f n).find? m
def scanC (m:Nat→Nat→Bool)(c n:Nat):Option (Nat×Nat):=(List.range' c n).findSome? fun c=>(scanF (m c) 0 19).map fun f=>(c,f)
theorem scanF_yes (m:Nat→Bool)(f n:Nat)(h:m f=true):scanF m f (n+1)=some f:=by simp [scanF,List.range'_succ,h]
theorem scanF_no (m:Nat→Bool)(f n:Nat)(h:m f=false):scanF m f (n+1)=scanF m (f+1) n:=by simp [scanF,List.range'_succ,h]
theorem scanF_none(m:Nat→Bool)(f n:Nat)(h:∀ k,f≤k→k<f+n→m k=false):scanF m f n=none:=by
 unfold scanF
 rw [List.find?_eq_none]
 intro k hk
 rw [List.mem_range'_1]at hk
 rw [h k hk.1 hk.2];decide
theorem scanC_succ (m:Nat→Nat→Bool)(c n:Nat):scanC m c (n+1)=match scanF (m c) 0 19 with|some f=>some (c,f)|none=>scanC m (c+1) n:=by
 simp only [scanC,List.range'_succ,List.findSome?_cons]
 cases scanF (m c) 0 19<;>rfl
theorem scanC_yes (m:Nat→Nat→Bool)(c n f:Nat)(h:scanF (m c) 0 19=some f):scanC m c (n+1)=some (c,f):=by rw [scanC_succ,h]
theorem scanC_no (m:Nat→Nat→Bool)(c n:Nat)(h:scanF (m c) 0 19=none):scanC m c (n+1)=scanC m (c+1) n:=by rw [scanC_succ,h]
def spotErr(s crs:Int):Int:=if ¬ (1≤s∧s≤4)then 30 else if(crs<0∨6<crs)∨(s=4∧crs≠0)then 12 else 0
def placeOf (s crs:Int)(l:List UInt8):Int×Int×Int :=
 if spotErr s crs≠0 then (0,0,spotErr s crs) else match scanC (plM s crs l) 1 14 with|some (c,f)=>((c:Int),(f:Int),0)|none=>(0,0,4)
open Go in
def placeV (s crs:Int)(l:List UInt8):Value:=.tuple #[.agg #[.int .i64 (placeOf s crs l).1,.int .i64 (placeOf s crs l).2.1],.int .i64 (placeOf s crs l).2.2]
theorem placeOf_some {s crs:Int} {l:List UInt8} {c f:Nat} (h:spotErr s crs=0)(hs:scanC (plM s crs l) 1 14=some (c,f)):placeOf s crs l=((c:Int),(f:Int),0):=by
 unfold placeOf;rw [if_neg (by rw [h];decide),hs]
theorem placeOf_none {s crs:Int} {l:List UInt8} (h:spotErr s crs=0)(hs:scanC (plM s crs l) 1 14=none):placeOf s crs l=(0,0,4):=by
 unfold placeOf;rw [if_neg (by rw [h];decide),hs]
theorem placeOf_bad {s crs:Int} {l:List UInt8} (h:spotErr s crs≠0):placeOf s crs l=(0,0,spotErr s crs):=by
 unfold placeOf;rw [if_pos h]
theorem plM_yes {s crs:Int} {l:List UInt8} {c f:Nat} (hs:1≤s∧s≤4) (hc:1≤c∧c≤14) (hf:f≤18) (h:plM s crs l c f=true) :
  pOk s c f=true∧(pS s c f == l)=true:=by
 obtain ⟨l1,l2⟩:=sym_law s c f hs zqo zqo
 simp only [plM,Bool.and_eq_true]at h
 have ho:pOk s c f=true:=by rw [l1];exact h.2.1
 exact ⟨ho,by rw [l2 ho];exact h.2.2⟩
theorem plM_no {s crs:Int} {l:List UInt8} {c f:Nat} (hs:1≤s∧s≤4) (hc:1≤c∧c≤14) (hf:f≤18) (hst:standsB s crs c=true) (h:plM s crs l c f=false) :
  pOk s c f=false∨(pOk s c f=true∧(pS s c f == l)=false):=by
 obtain ⟨l1,l2⟩:=sym_law s c f hs zqo zqo
 cases ho:pOk s c f with
 | false=>exact .inl rfl
 | true =>
  refine .inr ⟨rfl,?_⟩
  rw [l2 ho]
  rw [ho]at l1
  simp only [plM,hst,← l1,Bool.true_and]at h
  exact h
theorem plM_stands {s crs:Int} {l:List UInt8} {c f:Nat} (hst:standsB s crs c=false):plM s crs l c f=false:=by
 simp [plM,hst]
end
section
open Go.RowKit
attribute [local go_sem]mk_bs bs_size bs_toList bs_append bs_extract
attribute [local simp]run_cut run_cut_to run_cut_from run_add_bs
theorem of_bad (n:Int)(w:World)(h:n<1∨4<n):Calls Tryz.prog 50 #[.int .u8 n] w fun e w'=>e=.returned (.tuple #[.nilIface,.bool false])∧w=w':=by
 have h1:(n == 1)=false:=by simp;omega
 have h2:(n == 2)=false:=by simp;omega
 have h3:(n == 3)=false:=by simp;omega
 have h4:(n == 4)=false:=by simp;omega
 go_enter Tryz.func50,Tryz.ntmps50
 go_wp2
 go_ret2
 exact⟨rfl,rfl⟩
theorem psym_1 (c f:Int)(w:World)(hc:1≤c∧c≤14)(hf:0≤f∧f≤18) :
  Calls Tryz.prog 321 #[.agg #[],.agg #[.int .i64 c,.int .i64 f]] w (Ret (.tuple #[.string (bs (pS 1 c f)),.bool (pOk 1 c f)]) w):=fr_symbol c f w hc hf
theorem psym_2 (c f:Int)(w:World)(hc:1≤c∧c≤14)(hf:0≤f∧f≤18) :
  Calls Tryz.prog 336 #[.agg #[],.agg #[.int .i64 c,.int .i64 f]] w (Ret (.tuple #[.string (bs (pS 2 c f)),.bool (pOk 2 c f)]) w):=it_symbol c f w hc hf
theorem psym_3 (c f:Int)(w:World)(hc:1≤c∧c≤14)(hf:0≤f∧f≤18) :
  Calls Tryz.prog 344 #[.agg #[],.agg #[.int .i64 c,.int .i64 f]] w (Ret (.tuple #[.string (bs (pS 3 c f)),.bool (pOk 3 c f)]) w):=sp_symbol c f w hf
theorem psym_4 (c f:Int)(w:World)(hc:1≤c∧c≤14)(hf:0≤f∧f≤18) :
  Calls Tryz.prog 351 #[.agg #[],.agg #[.int .i64 c,.int .i64 f]] w (Ret (.tuple #[.string (bs (pS 4 c f)),.bool (pOk 4 c f)]) w):=ge_symbol c f w hc hf
theorem stands_any (s c crs:Int)(w:World) :
  Calls Tryz.prog 86 #[.int .u8 s,.int .i64 c,.int .i64 crs] w fun e w'=>e=.returned (.bool (standsB s crs c))∧w'=w:=by
 by_cases h:0<crs
 ·have e1:standsB s crs c=(c == crs):=if_pos h
  rw [e1]
  go_enter Tryz.func86,Tryz.ntmps86
  go_wp2
  go_ret
  exact⟨rfl,rfl⟩
 ·have e1:standsB s crs c=(s == 4|| decide (6<c)):=if_neg h
  rw [e1]
  by_cases h4:s=4
  ·subst h4
   go_enter Tryz.func86,Tryz.ntmps86
   go_wp2
   go_ret
   exact⟨rfl,rfl⟩
  ·have hb:(s == 4)=false:=by simp;exact h4
   go_enter Tryz.func86,Tryz.ntmps86
   go_wp2
   go_ret
   exact⟨rfl,rfl⟩
end
end Go.Proofs.YthehkchjdkdbiaaGreatDoor
