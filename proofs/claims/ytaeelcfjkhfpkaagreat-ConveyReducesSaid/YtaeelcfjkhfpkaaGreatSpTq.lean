/- Notes of the staff, their names, the text of an instrument: plain words. -/
import Derived.Lib.SmallJoins
import Derived.Deep.RegionHeld3
import Derived.Test.YtaeelcfjkhfpkaaGreatEZTq
set_option maxHeartbeats 1600000
set_option maxRecDepth 100000
set_option linter.unusedVariables false
set_option linter.unusedSimpArgs false
namespace Go.Proofs.YtaeelcfjkhfpkaaGreat
section
open Go.RowKit Go.WideShapes Go.ChangeShapes Go.Joins Go.Deep
section
variable {H:Type} {enc:TypeId×Value→H} {P:Program} {w:World} {base:Nat} {spare:Nat→Bool} {held:Bool}
theorem post_of_below {f:Func} {s:ChangeSpec} {apart fresh handsOn again:Bool} {W W':World} {args:Array Value} {v:Value} {ds gs:List (DataW H)} {before pa pv:List MemPlace}
  (hW:DataW.Whole enc P f.params.toList s.vars apart W args.toList ds gs before)
  (hres:∀ (b:Nat) (sp:Nat→Bool) (hd:Bool),DataW.TrodAll enc P W' b sp hd f.resultTypes.toList (v.resultList f.resultTypes.size) (s.fn H (ds++gs)).results [])
  (hargs:∀ sp:Nat→Bool,(∀ p∈before,sp p.block=true)→DataW.TrodAll enc P W' 0 sp true f.params.toList args.toList (s.fn H (ds++gs)).args pa)
  (hvars:∀ sp:Nat→Bool,(∀ p∈before,sp p.block=true)→DataW.TrodVars enc P W' sp s.vars (s.fn H (ds++gs)).vars pv)
  (hps:before=pa++pv) (hb:Below W.heap.size W W')
  (hok:∀ (j:Nat) (t:TypeId) (r:Value),f.resultTypes[j]?=some t→(v.resultList f.resultTypes.size)[j]?=some r→Value.okWide P W' .any 0 t r) :
  s.post enc P f apart fresh handsOn again W args v W':=by
 have hlt:∀ p∈before,p.block<W.heap.size:=fun p hp=>hW.lt p hp
 have hold:∀ p∈before,(fun b=>decide (b<W.heap.size)) p.block=true:=fun p hp=>by simpa using hlt p hp
 refine ⟨ds,gs,before,[],pa,pv,hW,hres _ _ _,hargs _ hold,hvars _ hold,World.keptBut_mono (fun p hp=>⟨hp,?_⟩) (hb.frame (·∈before)),fun _=>?_⟩
 ·rw [hps,List.mem_append] at hp
  exact Or.inr hp
 ·obtain ⟨_,_,_,_,_,hz,hn⟩:=hW
  refine ⟨hok,_,_,([]++pa)++pv,⟨[]++pa,pv,trodAll_append (hargs _ (fun _ _=>rfl)) (hres _ _ _),hvars _ (fun _ _=>rfl),rfl,?_,?_⟩,?_⟩
  ·intro b off hp
   have hin:MemPlace.cell b off∈before:=by rw [hps];simpa using hp
   rw [hb.frozen (hlt _ hin)]
   exact hz b off hin
  ·intro ha
   have:=hn ha
   rw [hps] at this
   simpa using this
  ·intro p hp _
   rw [hps]
   simpa using hp
end
end
section
open Go.RowKit
attribute [local go_sem]mk_bs bs_size bs_toList bs_append bs_extract
attribute [local simp]run_cut run_cut_to run_cut_from run_add_bs
def dig2 (u:Nat):List UInt8:=if u<10 then [UInt8.ofNat (48+u)]else [UInt8.ofNat (48+u/10),UInt8.ofNat (48+u % 10)]
theorem decDigits_dig2 (u:Nat)(h:u<100):Lib.decDigits u=dig2 u:=by
 unfold dig2
 by_cases h1:u<10
 ·rw [if_pos h1,Lib.decDigits,dif_pos h1]
 ·rw [if_neg h1,Lib.decDigits,dif_neg h1,Lib.decDigits,dif_pos (by omega)];rfl
theorem itoa_any (n:Int)(w:World)(h0:0≤n)(h1:n<100) :
  Calls Tryz.prog 190 #[.int .i64 n] w fun e w'=>e=.returned (.string (bs (dig2 n.toNat)))∧w'=w:=by
 obtain⟨k,rfl⟩:=Int.eq_ofNat_of_zero_le h0
 rw [Int.toNat_natCast,← decDigits_dig2 k (by omega)]
 exact Tryz.strconv_Itoa_small k zqo w
theorem repeat_any (l:List UInt8) (c:Int) (w:World) (h0:0≤c) (h1:c≤100) (h2:l.length≤100) :
  Calls Tryz.prog 191 #[.string (bs l),.int .i64 c] w (Ret (.string (bs (Lib.repeatL l c.toNat))) w):=by
 obtain ⟨k,rfl⟩:=Int.eq_ofNat_of_zero_le h0
 have hk:l.length*k≤100*100:=Nat.mul_le_mul h2 zqo
 exact Tryz.strings_Repeat (bs l) k w (by omega) (by rw [bs_size];omega)
def frS (c f:Int):List UInt8 :=
 if 11≤c then dig2 (c-7).toNat else Lib.repeatL [47] (max (c-7) 0).toNat++cut [97,98,99,100,101,102,103,104,105,107,108,109,110,111,112,113,114,115,116] f (f+1)
def frOk(c f:Int):Bool:=if 11≤c then f == 0 else true
theorem fr_symbol_low (c f:Int) (w:World) (hc:11≤c) (hc':c≤14) (hf:0≤f) (hf':f≤18) :
  Calls Tryz.prog 188 #[.agg #[],.agg #[.int .i64 c,.int .i64 f]] w (Ret (.tuple #[.string (bs (frS c f)),.bool (frOk c f)]) w):=by
 have e1:frS c f=dig2 (c - 7).toNat:=if_pos hc
 have e2:frOk c f=(f == 0):=if_pos hc
 rw [e1,e2]
 go_enter Tryz.func188,Tryz.ntmps188
 go_wp2
 go_quiet ((go_at_call 190;exact Calls.quiet_of_same (itoa_any _ _ zqo zqo)))
 go_wp2
 go_ret2
 exact Ret.mk' rfl zqb
theorem fr_symbol_high (c f:Int) (w:World) (hc:1≤c) (hc':c≤10) (hf:0≤f) (hf':f≤18) :
  Calls Tryz.prog 188 #[.agg #[],.agg #[.int .i64 c,.int .i64 f]] w (Ret (.tuple #[.string (bs (frS c f)),.bool (frOk c f)]) w):=by
 have e1:frS c f=Lib.repeatL [47] (max (c - 7) 0).toNat++cut [97,98,99,100,101,102,103,104,105,107,108,109,110,111,112,113,114,115,116] f (f+1):=if_neg zqo
 have e2:frOk c f=true:=if_neg zqo
 have m0:0≤max (c - 7) 0:=by omega
 have m1:max (c - 7) 0≤100:=by omega
 have hsz:(Lib.repeatL [47] (max (c - 7) 0).toNat).length≤100:=by simp [Lib.repeatL_length];omega
 have g0:0≤f+1:=by omega
 have g1:f+1≤19:=by omega
 have g2:(Lib.repeatL [47] (max (c - 7) 0).toNat).length+(cut [97,98,99,100,101,102,103,104,105,107,108,109,110,111,112,113,114,115,116] f (f+1)).length≤9223372036854775807:=by
  have:=cut_length [97,98,99,100,101,102,103,104,105,107,108,109,110,111,112,113,114,115,116] f (f+1)
  simp at this;omega
 have g3:f≤f+1:=by omega
 have hc11:¬ 11≤c:=by omega
 have e7:IntKind.i64.wrap (c - 7)=c - 7:=IntWalk.i64_in _ zqo
 have e8:IntKind.i64.wrap (f+1)=f+1:=IntWalk.i64_in _ zqo
 rw [e1,e2]
 go_enter Tryz.func188,Tryz.ntmps188
 go_wp2
 go_region_held3 (fun w'=>w'.cell? ⟨w.heap.size+1,0,none⟩=some (.int .i64 c)∧w'.cell? ⟨w.heap.size+1,1,none⟩=some (.int .i64 f))
  (first|(simp [bc];done)|go_keep)
  ((go_at_call 191;refine (repeat_any _ _ _ m0 m1 (by simp)).mono ?_;rintro e w' ⟨rfl,hb⟩;obtain ⟨bc,bf⟩:=bcell hb))
 go_wp2
 go_ret2
 exact Ret.mk' rfl zqb
theorem fr_symbol (c f:Int)(w:World)(hc:1≤c∧c≤14)(hf:0≤f∧f≤18) :
  Calls Tryz.prog 188 #[.agg #[],.agg #[.int .i64 c,.int .i64 f]] w (Ret (.tuple #[.string (bs (frS c f)),.bool (frOk c f)]) w):=by
 by_cases h:11≤c
 ·exact fr_symbol_low c f w h hc.2 hf.1 hf.2
 ·exact fr_symbol_high c f w hc.1 zqo hf.1 hf.2
def figS(f:Int):List UInt8:=if f≤9 then dig2 f.toNat else if f=10 then [120]else []
def figOk (f:Int):Bool:=decide (f≤10)
theorem figure_any (f:Int) (w:World) (hf:0≤f∧f≤18) :
  Calls Tryz.prog 217 #[.agg #[],.int .i64 f] w (Ret (.tuple #[.string (bs (figS f)),.bool (figOk f)]) w):=by
 obtain ⟨h0,h1⟩:=hf
 by_cases h9:f≤9
 ·have e1:figS f=dig2 f.toNat:=if_pos h9
  have e2:figOk f=true:=decide_eq_true zqo
  rw [e1,e2]
  go_enter Tryz.func217,Tryz.ntmps217
  go_wp2_with (go_at_call 190;refine (itoa_any _ _ zqo zqo).mono ?_;rintro e w' ⟨rfl,rfl⟩)
  go_ret2
  exact Ret.mk' rfl zqb
 ·by_cases h10:f=10
  ·subst h10
   go_enter Tryz.func217,Tryz.ntmps217
   go_wp2
   go_ret2
   exact Ret.mk' rfl zqb
  ·have e1:figS f=[]:=by unfold figS;rw [if_neg h9,if_neg h10]
   have e2:figOk f=false:=decide_eq_false zqo
   have hb:(f == 10)=false:=by simp;exact h10
   rw [e1,e2]
   go_enter Tryz.func217,Tryz.ntmps217
   go_wp2
   go_ret2
   exact Ret.mk' rfl zqb
def itS(c f:Int):List UInt8:=if c≤6 then figS f else if c=10 then [120]else dig2 c.toNat
def itOk(c f:Int):Bool:=if c≤6 then figOk f else f == 0
theorem it_symbol (c f:Int) (w:World) (hc:1≤c∧c≤14) (hf:0≤f∧f≤18) :
  Calls Tryz.prog 225 #[.agg #[],.agg #[.int .i64 c,.int .i64 f]] w (Ret (.tuple #[.string (bs (itS c f)),.bool (itOk c f)]) w):=by
 obtain ⟨hc0,hc1⟩:=hc
 have hp:∀ (w:World) (o:Obj),(partAt ⟨w.heap.size,0,none⟩ 0 0).run Tryz.prog ((w.alloc (.cells #[] 171)).alloc o)=.ok ⟨w.heap.size,0,none⟩ ((w.alloc (.cells #[] 171)).alloc o) :=
  fun w o=>run_partAt_zero _ _ _ _ (heap_alloc2 w _ o) zqk
 by_cases h6:c≤6
 ·have e1:itS c f=figS f:=if_pos h6
  have e2:itOk c f=figOk f:=if_pos h6
  rw [e1,e2]
  go_enter Tryz.func225,Tryz.ntmps225
  go_wp2_with (go_at_call 217;refine (figure_any _ _ hf).mono ?_;rintro e w' ⟨rfl,hb⟩)
  go_ret2
  exact Ret.mk' rfl zqb
 ·have e2:itOk c f=(f == 0):=if_neg h6
  by_cases h10:c=10
  ·subst h10
   rw [e2]
   go_enter Tryz.func225,Tryz.ntmps225
   go_wp2
   go_quiet (fail)
   go_wp2
   go_ret2
   exact Ret.mk' rfl zqb
  ·have e1:itS c f=dig2 c.toNat:=by unfold itS;rw [if_neg h6,if_neg h10]
   have hb:(c == 10)=false:=by simp;exact h10
   rw [e1,e2]
   go_enter Tryz.func225,Tryz.ntmps225
   go_wp2
   go_quiet ((go_at_call 190;exact Calls.quiet_of_same (itoa_any _ _ zqo zqo)))
   go_wp2
   go_ret2
   exact Ret.mk' rfl zqb
def spS(c f:Int):List UInt8:=if c≤6 then figS f else []
def spOk(c f:Int):Bool:=if c≤6 then figOk f else false
theorem sp_symbol (c f:Int) (w:World) (hf:0≤f∧f≤18) :
  Calls Tryz.prog 233 #[.agg #[],.agg #[.int .i64 c,.int .i64 f]] w (Ret (.tuple #[.string (bs (spS c f)),.bool (spOk c f)]) w):=by
 have hp:∀ (w:World) (o:Obj),(partAt ⟨w.heap.size,0,none⟩ 0 0).run Tryz.prog ((w.alloc (.cells #[] 173)).alloc o)=.ok ⟨w.heap.size,0,none⟩ ((w.alloc (.cells #[] 173)).alloc o) :=
  fun w o=>run_partAt_zero _ _ _ _ (heap_alloc2 w _ o) zqk
 by_cases h6:c≤6
 ·have e1:spS c f=figS f:=if_pos h6
  have e2:spOk c f=figOk f:=if_pos h6
  have h6':¬ 6 < c:=by omega
  rw [e1,e2]
  go_enter Tryz.func233,Tryz.ntmps233
  go_wp2_with (go_at_call 217;refine (figure_any _ _ hf).mono ?_;rintro e w' ⟨rfl,hb⟩)
  go_ret2
  exact Ret.mk' rfl zqb
 ·have e1:spS c f=[]:=if_neg h6
  have e2:spOk c f=false:=if_neg h6
  have h6':6 < c:=by omega
  rw [e1,e2]
  go_enter Tryz.func233,Tryz.ntmps233
  go_wp2
  go_ret2
  exact Ret.mk' rfl zqb
def small:List UInt8:=[97,98,99,100,101,102,103,104,105,107,108,109,110,111,112,113,114,115,116,118,120,121,122,38,57]
def geAt(c f:Int):Int:=(f-1) % 5*5+5-c
def geS (c f:Int):List UInt8 :=
 if 6<c∨10<f then [] else if c=6 then (if f=0 then [43] else cut [65,66,67,68,69,70,71,72,73,75] (f-1) f)
 else if f=0 then dig2 (6-c).toNat else Lib.repeatL (cut small (geAt c f) (geAt c f+1)) ((f+4)/5).toNat
def geOk (c f:Int):Bool:=decide (c≤6∧f≤10)
theorem ge_symbol_t (c f:Int) (w:World) (hc:1≤c∧c≤5) (hf:1≤f∧f≤10) :
  Calls Tryz.prog 240 #[.agg #[],.agg #[.int .i64 c,.int .i64 f]] w (Ret (.tuple #[.string (bs (geS c f)),.bool (geOk c f)]) w):=by
 obtain ⟨hc0,hc1⟩:=hc
 obtain ⟨hf0,hf1⟩:=hf
 have e1:geS c f=Lib.repeatL (cut small (geAt c f) (geAt c f+1)) ((f+4)/5).toNat:=by
  unfold geS;rw [if_neg (by omega),if_neg (by omega),if_neg (by omega)]
 have e2:geOk c f=true:=decide_eq_true zqo
 rw [e1,e2]
 unfold geAt small
 have hb1:(c == 6)=false:=by simp;omega
 have hb2:(f == 0)=false:=by simp;omega
 have g0:0≤(f - 1) % 5*5+5 - c:=by omega
 have g0':c≤(f - 1) % 5*5+5:=by omega
 have g2':(f - 1) % 5*5+5 - c≤24:=by omega
 have g1:(f - 1) % 5*5+5 - c≤(f - 1) % 5*5+5 - c+1:=by omega
 have g2:(f - 1) % 5*5+5 - c+1≤25:=by omega
 have g3:0≤f+4:=by omega
 have q0:0≤(f+4)/5:=by omega
 have q1:(f+4)/5≤100:=by omega
 have ql:=cut_length [97,98,99,100,101,102,103,104,105,107,108,109,110,111,112,113,114,115,116,118,120,121,122,38,57] ((f - 1) % 5*5+5 - c) ((f - 1) % 5*5+5 - c+1)
 have ql':(cut [97,98,99,100,101,102,103,104,105,107,108,109,110,111,112,113,114,115,116,118,120,121,122,38,57] ((f - 1) % 5*5+5 - c) ((f - 1) % 5*5+5 - c+1)).length≤100:=Nat.le_trans ql (by decide)
 clear ql
 have w1:IntKind.i64.wrap ((f - 1) % 5*5+5 - c+1)=(f - 1) % 5*5+5 - c+1:=IntWalk.i64_in _ zqo
 have w2:IntKind.i64.wrap (f+4)=f+4:=IntWalk.i64_in _ zqo
 have w3:IntKind.i64.wrap ((f+4).tdiv 5)=(f+4)/5:=by rw [Int.tdiv_eq_ediv_of_nonneg (by omega)];exact IntWalk.i64_in _ (by omega)
 go_enter Tryz.func240,Tryz.ntmps240
 go_wp2
 go_region_held3 (fun w'=>w'.cell? ⟨w.heap.size+1,0,none⟩=some (.int .i64 c)∧w'.cell? ⟨w.heap.size+1,1,none⟩=some (.int .i64 f))
  (first|(simp [bc];done)|go_keep)
  ((go_at_call 191;refine (repeat_any _ _ _ q0 q1 ql').mono ?_;rintro e w' ⟨rfl,hb⟩;obtain ⟨bc,bf⟩:=bcell hb))
 go_wp2
 go_ret2
 exact Ret.mk' rfl zqb
theorem ge_symbol (c f:Int) (w:World) (hc:1≤c∧c≤14) (hf:0≤f∧f≤18) :
  Calls Tryz.prog 240 #[.agg #[],.agg #[.int .i64 c,.int .i64 f]] w (Ret (.tuple #[.string (bs (geS c f)),.bool (geOk c f)]) w):=by
 obtain ⟨hc0,hc1⟩:=hc
 obtain ⟨hf0,hf1⟩:=hf
 by_cases hbad:6 < c∨10 < f
 ·have e1:geS c f=[]:=if_pos hbad
  have e2:geOk c f=false:=decide_eq_false zqo
  rw [e1,e2]
  by_cases h6:6 < c
  ·go_enter Tryz.func240,Tryz.ntmps240
   go_wp2
   go_ret2
   exact Ret.mk' rfl zqb
  ·have h10:10 < f:=by omega
   go_enter Tryz.func240,Tryz.ntmps240
   go_wp2
   go_ret2
   exact Ret.mk' rfl zqb
 ·have e2:geOk c f=true:=decide_eq_true zqo
  have k1:¬ 6 < c:=by omega
  have k2:¬ 10 < f:=by omega
  by_cases h6:c=6
  ·subst h6
   by_cases h0:f=0
   ·subst h0
    rw [e2]
    go_enter Tryz.func240,Tryz.ntmps240
    go_wp2
    go_ret2
    exact Ret.mk' rfl zqb
   ·have e1:geS 6 f=cut [65,66,67,68,69,70,71,72,73,75] (f - 1) f:=by unfold geS;rw [if_neg hbad,if_pos rfl,if_neg h0]
    have hb2:(f == 0)=false:=by simp;omega
    have g0:0≤f - 1:=by omega
    have g0':1≤f:=by omega
    have g1:f - 1≤f:=by omega
    have g2:f≤10:=by omega
    rw [e1,e2]
    go_enter Tryz.func240,Tryz.ntmps240
    go_wp2
    go_ret2
    exact Ret.mk' rfl zqb
  ·have hb1:(c == 6)=false:=by simp;omega
   by_cases h0:f=0
   ·subst h0
    have e1:geS c 0=dig2 (6 - c).toNat:=by unfold geS;rw [if_neg hbad,if_neg h6,if_pos rfl]
    rw [e1,e2]
    go_enter Tryz.func240,Tryz.ntmps240
    go_wp2_with (go_at_call 190;refine (itoa_any _ _ zqo zqo).mono ?_;rintro e w' ⟨rfl,rfl⟩)
    go_ret2
    exact Ret.mk' rfl zqb
   ·exact ge_symbol_t c f w ⟨hc0,by omega⟩ ⟨by omega,by omega⟩
end
section
def pS(s c f:Int):List UInt8:=if s=1 then frS c f else if s=2 then itS c f else if s=3 then spS c f else geS c f
def pOk(s c f:Int):Bool:=if s=1 then frOk c f else if s=2 then itOk c f else if s=3 then spOk c f else geOk c f
end
section
open Go.RowKit
abbrev Lck:=Int×Int×Int
def lckCells(x:Lck):List Value:=[.int .i64 x.1,.int .i64 x.2.1,.int .i64 x.2.2]
def SayAt (w:World)(B0 b:Nat)(l:List Lck):Prop :=
 ∃ Q d,Blk w b 33 #[.slice Q l.length d]∧w.ownsRow B0 72 3 (.slice Q l.length d) l.length (l.map lckCells).flatten
end
section
def sgOk (v:Int)(d t:Bool):Bool:=(v == 0 && !d && !t)|| (decide (1≤v) && decide (v≤7) && !(d && t))
def tkV(v:Int)(d t:Bool):Int :=
 if v<1∨7<v∨(d && t)=true then 0 else if d then 384/2 ^ (v-1).toNat/2*3 else if t then 384/2 ^ (v-1).toNat/3*2 else 384/2 ^ (v-1).toNat
theorem tkAll:((List.range' 1 7).all fun v=>[(false,false),(true,false),(false,true)].all fun p=>decide (0<tkV (v:Nat) p.1 p.2))=true:=by decide +kernel
theorem tkV_pos (v:Int) (d t:Bool) (hv:1≤v∧v≤7) (h:(d && t)=false):0<tkV v d t:=by
 obtain ⟨v,rfl⟩:=Int.eq_ofNat_of_zero_le (show 0≤v by omega)
 have h1:=tkAll
 rw [List.all_eq_true]at h1
 have h2:=h1 v (List.mem_range'_1.2 zqo)
 rw [List.all_eq_true]at h2
 cases d<;>cases t
 ·exact of_decide_eq_true (h2 (false,false) (by simp))
 ·exact of_decide_eq_true (h2 (false,true) (by simp))
 ·exact of_decide_eq_true (h2 (true,false) (by simp))
 ·cases h
end
section
open Go.RowKit
theorem insE_len {cs:List (Int×Int×Bool)} {st:List Int} (h:insE cs st=0):1≤cs.length∧cs.length≤14∧st.length≤18∧stepsBad 0 st=false∧crsE st cs=0:=by
 unfold insE at h
 by_cases h1:14<cs.length∨18<st.length
 ·rw [if_pos h1]at h;cases h
 ·rw [if_neg h1]at h
  by_cases h2:cs.length=0
  ·rw [if_pos h2]at h;cases h
  ·rw [if_neg h2]at h
   by_cases h3:stepsBad 0 st=true
   ·rw [if_pos h3]at h;cases h
   ·rw [if_neg h3]at h
    exact⟨by omega,by omega,by omega,by simpa using h3,h⟩
end
section
open Go.RowKit
attribute [local go_sem]mk_bs bs_size bs_toList bs_append bs_extract
attribute [local simp]run_cut run_cut_to run_cut_from run_add_bs
theorem of_bad (n:Int)(w:World)(h:n<1∨4<n):Calls Tryz.prog 92 #[.int .u8 n] w fun e w'=>e=.returned (.tuple #[.nilIface,.bool false])∧w=w':=by
 have h1:(n == 1)=false:=by simp;omega
 have h2:(n == 2)=false:=by simp;omega
 have h3:(n == 3)=false:=by simp;omega
 have h4:(n == 4)=false:=by simp;omega
 go_enter Tryz.func92,Tryz.ntmps92
 go_wp2
 go_ret2
 exact⟨rfl,rfl⟩
theorem psym_1 (c f:Int)(w:World)(hc:1≤c∧c≤14)(hf:0≤f∧f≤18) :
  Calls Tryz.prog 188 #[.agg #[],.agg #[.int .i64 c,.int .i64 f]] w (Ret (.tuple #[.string (bs (pS 1 c f)),.bool (pOk 1 c f)]) w):=fr_symbol c f w hc hf
theorem psym_2 (c f:Int)(w:World)(hc:1≤c∧c≤14)(hf:0≤f∧f≤18) :
  Calls Tryz.prog 225 #[.agg #[],.agg #[.int .i64 c,.int .i64 f]] w (Ret (.tuple #[.string (bs (pS 2 c f)),.bool (pOk 2 c f)]) w):=it_symbol c f w hc hf
theorem psym_3 (c f:Int)(w:World)(hc:1≤c∧c≤14)(hf:0≤f∧f≤18) :
  Calls Tryz.prog 233 #[.agg #[],.agg #[.int .i64 c,.int .i64 f]] w (Ret (.tuple #[.string (bs (pS 3 c f)),.bool (pOk 3 c f)]) w):=sp_symbol c f w hf
theorem psym_4 (c f:Int)(w:World)(hc:1≤c∧c≤14)(hf:0≤f∧f≤18) :
  Calls Tryz.prog 240 #[.agg #[],.agg #[.int .i64 c,.int .i64 f]] w (Ret (.tuple #[.string (bs (pS 4 c f)),.bool (pOk 4 c f)]) w):=ge_symbol c f w hc hf
end
section
open Go.RowKit
def sndIn(l al o:Int):Prop:=(0≤l∧l≤6)∧(-1≤al∧al≤1)∧-1≤o∧o≤9
instance (l al o:Int):Decidable (sndIn l al o):=by unfold sndIn;exact inferInstance
end
end Go.Proofs.YtaeelcfjkhfpkaaGreat
