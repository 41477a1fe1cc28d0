/- The symbols of the program's four systems: contracts. -/
import Derived.Shelf.Strings.BuilderK
import Derived.Shelf.Strconv.Itoa3
import Derived.Shelf.Strings.Repeat
import Derived.Test.YtaeelcfjkhfpkaaGreatProg
import Derived.Test.YtaeelcfjkhfpkaaGreatInsPNq
import Derived.BigQuiet
import Derived.Deep.RegionHeld3
set_option maxHeartbeats 400000
set_option maxRecDepth 100000
set_option linter.unusedVariables false
set_option linter.unusedSimpArgs false
namespace Go.Proofs
open Go.Shelf
def Tryz.laysM246_ren:Go.Shelf.Ren:=⟨fun|246=>199|283=>205|284=>206|285=>207|286=>208|129=>159|317=>211|318=>212|319=>213|320=>214|337=>215|338=>216|n=>n,fun|2=>2|3=>3|9=>9|4=>4|171=>252|0=>0|53=>209|37=>239|5=>5|173=>254|212=>261|51=>207|20=>20|213=>262|46=>196|232=>263|233=>264|n=>n,fun|17=>0|18=>2|19=>3|n=>n⟩
def Tryz.laysM243_ren:Go.Shelf.Ren:=⟨fun|243=>192|246=>199|283=>205|284=>206|285=>207|286=>208|129=>159|317=>211|318=>212|319=>213|320=>214|337=>215|338=>216|n=>n,fun|3=>3|9=>9|2=>2|4=>4|171=>252|0=>0|53=>209|37=>239|5=>5|173=>254|212=>261|51=>207|20=>20|213=>262|46=>196|232=>263|233=>264|n=>n,fun|17=>0|18=>2|19=>3|n=>n⟩
def Tryz.laysM171_ren:Go.Shelf.Ren:=⟨fun|171=>190|243=>192|246=>199|283=>205|284=>206|285=>207|286=>208|129=>159|317=>211|318=>212|319=>213|320=>214|337=>215|338=>216|n=>n,fun|3=>3|9=>9|2=>2|4=>4|171=>252|0=>0|53=>209|37=>239|5=>5|173=>254|212=>261|51=>207|20=>20|213=>262|46=>196|232=>263|233=>264|n=>n,fun|17=>0|18=>2|19=>3|n=>n⟩
def Tryz.lays171_ren:Go.Shelf.Ren:=⟨fun|171=>190|243=>192|246=>199|283=>205|284=>206|285=>207|286=>208|129=>159|317=>211|318=>212|319=>213|320=>214|337=>215|338=>216|n=>n,fun|3=>3|9=>9|2=>2|4=>4|171=>252|0=>0|53=>209|37=>239|5=>5|173=>254|212=>261|51=>207|20=>20|213=>262|46=>196|232=>263|233=>264|n=>n,fun|17=>0|18=>2|19=>3|n=>n⟩
theorem Tryz.lays171:Go.Proofs.Lays.n171 Tryz.prog Tryz.lays171_ren:={
 mixed:=by kernel_rfl
 f129:=Tryz.func159.trans (congrArg some (by kernel_rfl))
 f171:=Tryz.func190.trans (congrArg some (by kernel_rfl))
 f243:=Tryz.func192.trans (congrArg some (by kernel_rfl))
 f246:=Tryz.func199.trans (congrArg some (by kernel_rfl))
 f283:=Tryz.func205.trans (congrArg some (by kernel_rfl))
 f284:=Tryz.func206.trans (congrArg some (by kernel_rfl))
 f285:=Tryz.func207.trans (congrArg some (by kernel_rfl))
 f286:=Tryz.func208.trans (congrArg some (by kernel_rfl))
 f317:=Tryz.func211.trans (congrArg some (by kernel_rfl))
 f318:=Tryz.func212.trans (congrArg some (by kernel_rfl))
 f319:=Tryz.func213.trans (congrArg some (by kernel_rfl))
 f320:=Tryz.func214.trans (congrArg some (by kernel_rfl))
 f337:=Tryz.func215.trans (congrArg some (by kernel_rfl))
 f338:=Tryz.func216.trans (congrArg some (by kernel_rfl))
 t0:=Tryz.underlying0
 a0:=Tryz.isAgg0
 z0:=Tryz.sizeOf0
 v0:=Tryz.zeroValue0
 t2:=Tryz.underlying2
 a2:=Tryz.isAgg2
 z2:=Tryz.sizeOf2
 v2:=Tryz.zeroValue2
 t3:=Tryz.underlying3
 a3:=Tryz.isAgg3
 z3:=Tryz.sizeOf3
 v3:=Tryz.zeroValue3
 t4:=Tryz.underlying4
 a4:=Tryz.isAgg4
 z4:=Tryz.sizeOf4
 v4:=Tryz.zeroValue4
 t5:=Tryz.underlying5
 a5:=Tryz.isAgg5
 z5:=Tryz.sizeOf5
 v5:=Tryz.zeroValue5
 t9:=Tryz.underlying9
 a9:=Tryz.isAgg9
 z9:=Tryz.sizeOf9
 v9:=Tryz.zeroValue9
 t20:=Tryz.underlying20
 a20:=Tryz.isAgg20
 z20:=Tryz.sizeOf20
 v20:=Tryz.zeroValue20
 t37:=Tryz.underlying239
 a37:=Tryz.isAgg239
 z37:=Tryz.sizeOf239
 v37:=Tryz.zeroValue239
 t46:=Tryz.underlying196
 a46:=Tryz.isAgg196
 z46:=Tryz.sizeOf196
 v46:=Tryz.zeroValue196
 t51:=Tryz.underlying207
 a51:=Tryz.isAgg207
 z51:=Tryz.sizeOf207
 v51:=Tryz.zeroValue207
 t53:=Tryz.underlying209
 a53:=Tryz.isAgg209
 z53:=Tryz.sizeOf209
 v53:=Tryz.zeroValue209
 t171:=Tryz.underlying252
 a171:=Tryz.isAgg252
 z171:=Tryz.sizeOf252
 v171:=Tryz.zeroValue252
 t173:=Tryz.underlying254
 a173:=Tryz.isAgg254
 z173:=Tryz.sizeOf254
 v173:=Tryz.zeroValue254
 t212:=Tryz.underlying261
 a212:=Tryz.isAgg261
 z212:=Tryz.sizeOf261
 v212:=Tryz.zeroValue261
 t213:=Tryz.underlying262
 a213:=Tryz.isAgg262
 z213:=Tryz.sizeOf262
 t232:=Tryz.underlying263
 a232:=Tryz.isAgg263
 z232:=Tryz.sizeOf263
 v232:=Tryz.zeroValue263
 t233:=Tryz.underlying264
 a233:=Tryz.isAgg264
 z233:=Tryz.sizeOf264
 v233:=Tryz.zeroValue264
 g17:=by kernel_rfl
 g18:=by kernel_rfl
 g19:=by kernel_rfl }
open Go.RowKit Go.Sort Go.Lib in
theorem Tryz.strconv_Itoa_small (i:Nat) (hi:i<100) (w:World) :
  Calls Tryz.prog 190 #[.int .i64 i] w fun e w'=>e=.returned (.string ⟨(Lib.decDigits i).toArray⟩)∧w'=w:=Any.strconv_Itoa_small Tryz.lays171 i hi w
def Tryz.lays105_ren:Go.Shelf.Ren:=⟨fun|105=>191|212=>193|99=>194|165=>195|166=>196|170=>197|169=>198|263=>200|264=>201|206=>202|240=>203|241=>204|276=>209|277=>210|n=>n,fun|9=>9|3=>3|4=>4|20=>20|0=>0|46=>196|109=>235|5=>5|72=>241|76=>245|51=>207|146=>248|53=>209|148=>250|70=>238|37=>239|75=>244|127=>228|164=>256|80=>134|n=>n,fun|n=>n⟩
theorem Tryz.lays105:Go.Proofs.Lays.n105 Tryz.prog Tryz.lays105_ren:={
 mixed:=by kernel_rfl
 f99:=Tryz.func194.trans (congrArg some (by kernel_rfl))
 f105:=Tryz.func191.trans (congrArg some (by kernel_rfl))
 f165:=Tryz.func195.trans (congrArg some (by kernel_rfl))
 f166:=Tryz.func196.trans (congrArg some (by kernel_rfl))
 f169:=Tryz.func198.trans (congrArg some (by kernel_rfl))
 f170:=Tryz.func197.trans (congrArg some (by kernel_rfl))
 f206:=Tryz.func202.trans (congrArg some (by kernel_rfl))
 f212:=Tryz.func193.trans (congrArg some (by kernel_rfl))
 f240:=Tryz.func203.trans (congrArg some (by kernel_rfl))
 f241:=Tryz.func204.trans (congrArg some (by kernel_rfl))
 f263:=Tryz.func200.trans (congrArg some (by kernel_rfl))
 f264:=Tryz.func201.trans (congrArg some (by kernel_rfl))
 f276:=Tryz.func209.trans (congrArg some (by kernel_rfl))
 f277:=Tryz.func210.trans (congrArg some (by kernel_rfl))
 t0:=Tryz.underlying0
 a0:=Tryz.isAgg0
 z0:=Tryz.sizeOf0
 v0:=Tryz.zeroValue0
 t3:=Tryz.underlying3
 a3:=Tryz.isAgg3
 z3:=Tryz.sizeOf3
 v3:=Tryz.zeroValue3
 t4:=Tryz.underlying4
 a4:=Tryz.isAgg4
 z4:=Tryz.sizeOf4
 v4:=Tryz.zeroValue4
 t5:=Tryz.underlying5
 a5:=Tryz.isAgg5
 z5:=Tryz.sizeOf5
 v5:=Tryz.zeroValue5
 t9:=Tryz.underlying9
 a9:=Tryz.isAgg9
 z9:=Tryz.sizeOf9
 v9:=Tryz.zeroValue9
 t20:=Tryz.underlying20
 a20:=Tryz.isAgg20
 z20:=Tryz.sizeOf20
 v20:=Tryz.zeroValue20
 t37:=Tryz.underlying239
 a37:=Tryz.isAgg239
 z37:=Tryz.sizeOf239
 v37:=Tryz.zeroValue239
 t46:=Tryz.underlying196
 a46:=Tryz.isAgg196
 z46:=Tryz.sizeOf196
 v46:=Tryz.zeroValue196
 t51:=Tryz.underlying207
 a51:=Tryz.isAgg207
 z51:=Tryz.sizeOf207
 v51:=Tryz.zeroValue207
 t53:=Tryz.underlying209
 a53:=Tryz.isAgg209
 z53:=Tryz.sizeOf209
 v53:=Tryz.zeroValue209
 t70:=Tryz.underlying238
 a70:=Tryz.isAgg238
 z70:=Tryz.sizeOf238
 v70:=Tryz.zeroValue238
 t72:=Tryz.underlying241
 a72:=Tryz.isAgg241
 z72:=Tryz.sizeOf241
 v72:=Tryz.zeroValue241
 t75:=Tryz.underlying244
 a75:=Tryz.isAgg244
 z75:=Tryz.sizeOf244
 v75:=Tryz.zeroValue244
 t76:=Tryz.underlying245
 a76:=Tryz.isAgg245
 z76:=Tryz.sizeOf245
 v76:=Tryz.zeroValue245
 t109:=Tryz.underlying235
 a109:=Tryz.isAgg235
 z109:=Tryz.sizeOf235
 v109:=Tryz.zeroValue235
 t127:=Tryz.underlying228
 a127:=Tryz.isAgg228
 z127:=Tryz.sizeOf228
 v127:=Tryz.zeroValue228
 t146:=Tryz.underlying248
 a146:=Tryz.isAgg248
 z146:=Tryz.sizeOf248
 v146:=Tryz.zeroValue248
 t148:=Tryz.underlying250
 a148:=Tryz.isAgg250
 z148:=Tryz.sizeOf250
 v148:=Tryz.zeroValue250
 t164:=Tryz.underlying256
 a164:=Tryz.isAgg256
 z164:=Tryz.sizeOf256
 v164:=Tryz.zeroValue256 }
theorem Tryz.Builder_Extra_105:Builder.Extra Tryz.prog Tryz.lays105_ren:={
 sizeBuilder:=by kernel_rfl
 liesBuilder:=by kernel_rfl
 t5:=Tryz.underlying5
 a5:=Tryz.isAgg5
 z5:=Tryz.sizeOf5
 v5:=Tryz.zeroValue5
 infoByte:=by kernel_rfl
 cellsByte:=by kernel_rfl
 sizeByte:=by kernel_rfl
 neB5:=by decide }
open Go.RowKit Go.Lib in
theorem Tryz.strings_Repeat (s:ByteArray) (c:Nat) (w:World) (hc:c≤9223372036854775807) (hlen:s.size*c≤140737488355328) :
  Calls Tryz.prog 191 #[.string s,.int .i64 c] w fun e w'=>e=.returned (.string ⟨(Lib.repeatL s.data.toList c).toArray⟩)∧Below w.heap.size w w':=Any.strings_Repeat Tryz.lays105 Tryz.Builder_Extra_105 s c w hc hlen
end Go.Proofs
namespace Go.Proofs.YtaeelcfjkhfpkaaGreat
open Go.RowKit
attribute [local go_sem]mk_bs bs_size bs_toList bs_append bs_extract
attribute [local simp]run_cut run_cut_to run_cut_from run_add_bs
def dig2 (u:Nat):List UInt8:=if u<10 then [UInt8.ofNat (48+u)]else [UInt8.ofNat (48+u/10),UInt8.ofNat (48+u % 10)]
theorem decDigits_dig2 (u:Nat)(h:u<100):Lib.decDigits u=dig2 u:=by
 unfold dig2
 by_cases h1:u<10
 ·rw [if_pos h1,Lib.decDigits,dif_pos h1]
 ·rw [if_neg h1,Lib.decDigits,dif_neg h1,Lib.decDigits,dif_pos (by omega)];rfl
theorem itoa_any (n:Int)(w:World)(h0:0≤n)(h1:n<100) :
  Calls Tryz.prog 190 #[.int .i64 n] w fun e w'=>e=.returned (.string (bs (dig2 n.toNat)))∧w'=w:=by
 obtain⟨k,rfl⟩:=Int.eq_ofNat_of_zero_le h0
 rw [Int.toNat_natCast,← decDigits_dig2 k (by omega)]
 exact Tryz.strconv_Itoa_small k zqo w
theorem repeat_any (l:List UInt8) (c:Int) (w:World) (h0:0≤c) (h1:c≤100) (h2:l.length≤100) :
  Calls Tryz.prog 191 #[.string (bs l),.int .i64 c] w (Ret (.string (bs (Lib.repeatL l c.toNat))) w):=by
 obtain ⟨k,rfl⟩:=Int.eq_ofNat_of_zero_le h0
 have hk:l.length*k≤100*100:=Nat.mul_le_mul h2 zqo
 exact Tryz.strings_Repeat (bs l) k w (by omega) (by rw [bs_size];omega)
def frS (c f:Int):List UInt8 :=
 if 11≤c then dig2 (c-7).toNat else Lib.repeatL [47] (max (c-7) 0).toNat++cut [97,98,99,100,101,102,103,104,105,107,108,109,110,111,112,113,114,115,116] f (f+1)
def frOk(c f:Int):Bool:=if 11≤c then f == 0 else true
theorem fr_symbol_low (c f:Int) (w:World) (hc:11≤c) (hc':c≤14) (hf:0≤f) (hf':f≤18) :
  Calls Tryz.prog 188 #[.agg #[],.agg #[.int .i64 c,.int .i64 f]] w (Ret (.tuple #[.string (bs (frS c f)),.bool (frOk c f)]) w):=by
 have e1:frS c f=dig2 (c - 7).toNat:=if_pos hc
 have e2:frOk c f=(f == 0):=if_pos hc
 rw [e1,e2]
 go_enter Tryz.func188,Tryz.ntmps188
 go_wp2
 go_quiet ((go_at_call 190;exact Calls.quiet_of_same (itoa_any _ _ zqo zqo)))
 go_wp2
 go_ret2
 exact Ret.mk' rfl zqb
theorem fr_symbol_high (c f:Int) (w:World) (hc:1≤c) (hc':c≤10) (hf:0≤f) (hf':f≤18) :
  Calls Tryz.prog 188 #[.agg #[],.agg #[.int .i64 c,.int .i64 f]] w (Ret (.tuple #[.string (bs (frS c f)),.bool (frOk c f)]) w):=by
 have e1:frS c f=Lib.repeatL [47] (max (c - 7) 0).toNat++cut [97,98,99,100,101,102,103,104,105,107,108,109,110,111,112,113,114,115,116] f (f+1):=if_neg zqo
 have e2:frOk c f=true:=if_neg zqo
 have m0:0≤max (c - 7) 0:=by omega
 have m1:max (c - 7) 0≤100:=by omega
 have hsz:(Lib.repeatL [47] (max (c - 7) 0).toNat).length≤100:=by simp [Lib.repeatL_length];omega
 have g0:0≤f+1:=by omega
 have g1:f+1≤19:=by omega
 have g2:(Lib.repeatL [47] (max (c - 7) 0).toNat).length+(cut [97,98,99,100,101,102,103,104,105,107,108,109,110,111,112,113,114,115,116] f (f+1)).length≤9223372036854775807:=by
  have:=cut_length [97,98,99,100,101,102,103,104,105,107,108,109,110,111,112,113,114,115,116] f (f+1)
  simp at this;omega
 have g3:f≤f+1:=by omega
 have hc11:¬ 11≤c:=by omega
 have e7:IntKind.i64.wrap (c - 7)=c - 7:=IntWalk.i64_in _ zqo
 have e8:IntKind.i64.wrap (f+1)=f+1:=IntWalk.i64_in _ zqo
 rw [e1,e2]
 go_enter Tryz.func188,Tryz.ntmps188
 go_wp2
 go_region_held3 (fun w'=>w'.cell? ⟨w.heap.size+1,0,none⟩=some (.int .i64 c)∧w'.cell? ⟨w.heap.size+1,1,none⟩=some (.int .i64 f))
  (first|(simp [bc];done)|go_keep)
  ((go_at_call 191;refine (repeat_any _ _ _ m0 m1 (by simp)).mono ?_;rintro e w' ⟨rfl,hb⟩;obtain ⟨bc,bf⟩:=bcell hb))
 go_wp2
 go_ret2
 exact Ret.mk' rfl zqb
theorem fr_symbol (c f:Int)(w:World)(hc:1≤c∧c≤14)(hf:0≤f∧f≤18) :
  Calls Tryz.prog 188 #[.agg #[],.agg #[.int .i64 c,.int .i64 f]] w (Ret (.tuple #[.string (bs (frS c f)),.bool (frOk c f)]) w):=by
 by_cases h:11≤c
 ·exact fr_symbol_low c f w h hc.2 hf.1 hf.2
 ·exact fr_symbol_high c f w hc.1 zqo hf.1 hf.2
def figS(f:Int):List UInt8:=if f≤9 then dig2 f.toNat else if f=10 then [120]else []
def figOk (f:Int):Bool:=decide (f≤10)
theorem figure_any (f:Int) (w:World) (hf:0≤f∧f≤18) :
  Calls Tryz.prog 217 #[.agg #[],.int .i64 f] w (Ret (.tuple #[.string (bs (figS f)),.bool (figOk f)]) w):=by
 obtain ⟨h0,h1⟩:=hf
 by_cases h9:f≤9
 ·have e1:figS f=dig2 f.toNat:=if_pos h9
  have e2:figOk f=true:=decide_eq_true zqo
  rw [e1,e2]
  go_enter Tryz.func217,Tryz.ntmps217
  go_wp2_with (go_at_call 190;refine (itoa_any _ _ zqo zqo).mono ?_;rintro e w' ⟨rfl,rfl⟩)
  go_ret2
  exact Ret.mk' rfl zqb
 ·by_cases h10:f=10
  ·subst h10
   go_enter Tryz.func217,Tryz.ntmps217
   go_wp2
   go_ret2
   exact Ret.mk' rfl zqb
  ·have e1:figS f=[]:=by unfold figS;rw [if_neg h9,if_neg h10]
   have e2:figOk f=false:=decide_eq_false zqo
   have hb:(f == 10)=false:=by simp;exact h10
   rw [e1,e2]
   go_enter Tryz.func217,Tryz.ntmps217
   go_wp2
   go_ret2
   exact Ret.mk' rfl zqb
def itS(c f:Int):List UInt8:=if c≤6 then figS f else if c=10 then [120]else dig2 c.toNat
def itOk(c f:Int):Bool:=if c≤6 then figOk f else f == 0
theorem it_symbol (c f:Int) (w:World) (hc:1≤c∧c≤14) (hf:0≤f∧f≤18) :
  Calls Tryz.prog 225 #[.agg #[],.agg #[.int .i64 c,.int .i64 f]] w (Ret (.tuple #[.string (bs (itS c f)),.bool (itOk c f)]) w):=by
 obtain ⟨hc0,hc1⟩:=hc
 have hp:∀ (w:World) (o:Obj),(partAt ⟨w.heap.size,0,none⟩ 0 0).run Tryz.prog ((w.alloc (.cells #[] 171)).alloc o)=.ok ⟨w.heap.size,0,none⟩ ((w.alloc (.cells #[] 171)).alloc o) :=
  fun w o=>run_partAt_zero _ _ _ _ (heap_alloc2 w _ o) (by kernel_rfl)
 by_cases h6:c≤6
 ·have e1:itS c f=figS f:=if_pos h6
  have e2:itOk c f=figOk f:=if_pos h6
  rw [e1,e2]
  go_enter Tryz.func225,Tryz.ntmps225
  go_wp2_with (go_at_call 217;refine (figure_any _ _ hf).mono ?_;rintro e w' ⟨rfl,hb⟩)
  go_ret2
  exact Ret.mk' rfl zqb
 ·have e2:itOk c f=(f == 0):=if_neg h6
  by_cases h10:c=10
  ·subst h10
   rw [e2]
   go_enter Tryz.func225,Tryz.ntmps225
   go_wp2
   go_quiet (fail)
   go_wp2
   go_ret2
   exact Ret.mk' rfl zqb
  ·have e1:itS c f=dig2 c.toNat:=by unfold itS;rw [if_neg h6,if_neg h10]
   have hb:(c == 10)=false:=by simp;exact h10
   rw [e1,e2]
   go_enter Tryz.func225,Tryz.ntmps225
   go_wp2
   go_quiet ((go_at_call 190;exact Calls.quiet_of_same (itoa_any _ _ zqo zqo)))
   go_wp2
   go_ret2
   exact Ret.mk' rfl zqb
def spS(c f:Int):List UInt8:=if c≤6 then figS f else []
def spOk(c f:Int):Bool:=if c≤6 then figOk f else false
theorem sp_symbol (c f:Int) (w:World) (hf:0≤f∧f≤18) :
  Calls Tryz.prog 233 #[.agg #[],.agg #[.int .i64 c,.int .i64 f]] w (Ret (.tuple #[.string (bs (spS c f)),.bool (spOk c f)]) w):=by
 have hp:∀ (w:World) (o:Obj),(partAt ⟨w.heap.size,0,none⟩ 0 0).run Tryz.prog ((w.alloc (.cells #[] 173)).alloc o)=.ok ⟨w.heap.size,0,none⟩ ((w.alloc (.cells #[] 173)).alloc o) :=
  fun w o=>run_partAt_zero _ _ _ _ (heap_alloc2 w _ o) (by kernel_rfl)
 by_cases h6:c≤6
 ·have e1:spS c f=figS f:=if_pos h6
  have e2:spOk c f=figOk f:=if_pos h6
  have h6':¬ 6 < c:=by omega
  rw [e1,e2]
  go_enter Tryz.func233,Tryz.ntmps233
  go_wp2_with (go_at_call 217;refine (figure_any _ _ hf).mono ?_;rintro e w' ⟨rfl,hb⟩)
  go_ret2
  exact Ret.mk' rfl zqb
 ·have e1:spS c f=[]:=if_neg h6
  have e2:spOk c f=false:=if_neg h6
  have h6':6 < c:=by omega
  rw [e1,e2]
  go_enter Tryz.func233,Tryz.ntmps233
  go_wp2
  go_ret2
  exact Ret.mk' rfl zqb
def small:List UInt8:=[97,98,99,100,101,102,103,104,105,107,108,109,110,111,112,113,114,115,116,118,120,121,122,38,57]
def geAt(c f:Int):Int:=(f-1) % 5*5+5-c
def geS (c f:Int):List UInt8 :=
 if 6<c∨10<f then [] else if c=6 then (if f=0 then [43] else cut [65,66,67,68,69,70,71,72,73,75] (f-1) f)
 else if f=0 then dig2 (6-c).toNat else Lib.repeatL (cut small (geAt c f) (geAt c f+1)) ((f+4)/5).toNat
def geOk (c f:Int):Bool:=decide (c≤6∧f≤10)
theorem ge_symbol_t (c f:Int) (w:World) (hc:1≤c∧c≤5) (hf:1≤f∧f≤10) :
  Calls Tryz.prog 240 #[.agg #[],.agg #[.int .i64 c,.int .i64 f]] w (Ret (.tuple #[.string (bs (geS c f)),.bool (geOk c f)]) w):=by
 obtain ⟨hc0,hc1⟩:=hc
 obtain ⟨hf0,hf1⟩:=hf
 have e1:geS c f=Lib.repeatL (cut small (geAt c f) (geAt c f+1)) ((f+4)/5).toNat:=by
  unfold geS;rw [if_neg (by omega),if_neg (by omega),if_neg (by omega)]
 have e2:geOk c f=true:=decide_eq_true zqo
 rw [e1,e2]
 unfold geAt small
 have hb1:(c == 6)=false:=by simp;omega
 have hb2:(f == 0)=false:=by simp;omega
 have g0:0≤(f - 1) % 5*5+5 - c:=by omega
 have g0':c≤(f - 1) % 5*5+5:=by omega
 have g2':(f - 1) % 5*5+5 - c≤24:=by omega
 have g1:(f - 1) % 5*5+5 - c≤(f - 1) % 5*5+5 - c+1:=by omega
 have g2:(f - 1) % 5*5+5 - c+1≤25:=by omega
 have g3:0≤f+4:=by omega
 have q0:0≤(f+4)/5:=by omega
 have q1:(f+4)/5≤100:=by omega
 have ql:=cut_length [97,98,99,100,101,102,103,104,105,107,108,109,110,111,112,113,114,115,116,118,120,121,122,38,57] ((f - 1) % 5*5+5 - c) ((f - 1) % 5*5+5 - c+1)
 have ql':(cut [97,98,99,100,101,102,103,104,105,107,108,109,110,111,112,113,114,115,116,118,120,121,122,38,57] ((f - 1) % 5*5+5 - c) ((f - 1) % 5*5+5 - c+1)).length≤100:=Nat.le_trans ql (by decide)
 clear ql
 have w1:IntKind.i64.wrap ((f - 1) % 5*5+5 - c+1)=(f - 1) % 5*5+5 - c+1:=IntWalk.i64_in _ zqo
 have w2:IntKind.i64.wrap (f+4)=f+4:=IntWalk.i64_in _ zqo
 have w3:IntKind.i64.wrap ((f+4).tdiv 5)=(f+4)/5:=by rw [Int.tdiv_eq_ediv_of_nonneg (by omega)];exact IntWalk.i64_in _ (by omega)
 go_enter Tryz.func240,Tryz.ntmps240
 go_wp2
 go_region_held3 (fun w'=>w'.cell? ⟨w.heap.size+1,0,none⟩=some (.int .i64 c)∧w'.cell? ⟨w.heap.size+1,1,none⟩=some (.int .i64 f))
  (first|(simp [bc];done)|go_keep)
  ((go_at_call 191;refine (repeat_any _ _ _ q0 q1 ql').mono ?_;rintro e w' ⟨rfl,hb⟩;obtain ⟨bc,bf⟩:=bcell hb))
 go_wp2
 go_ret2
 exact Ret.mk' rfl zqb
theorem ge_symbol (c f:Int) (w:World) (hc:1≤c∧c≤14) (hf:0≤f∧f≤18) :
  Calls Tryz.prog 240 #[.agg #[],.agg #[.int .i64 c,.int .i64 f]] w (Ret (.tuple #[.string (bs (geS c f)),.bool (geOk c f)]) w):=by
 obtain ⟨hc0,hc1⟩:=hc
 obtain ⟨hf0,hf1⟩:=hf
 by_cases hbad:6 < c∨10 < f
 ·have e1:geS c f=[]:=if_pos hbad
  have e2:geOk c f=false:=decide_eq_false zqo
  rw [e1,e2]
  by_cases h6:6 < c
  ·go_enter Tryz.func240,Tryz.ntmps240
   go_wp2
   go_ret2
   exact Ret.mk' rfl zqb
  ·have h10:10 < f:=by omega
   go_enter Tryz.func240,Tryz.ntmps240
   go_wp2
   go_ret2
   exact Ret.mk' rfl zqb
 ·have e2:geOk c f=true:=decide_eq_true zqo
  have k1:¬ 6 < c:=by omega
  have k2:¬ 10 < f:=by omega
  by_cases h6:c=6
  ·subst h6
   by_cases h0:f=0
   ·subst h0
    rw [e2]
    go_enter Tryz.func240,Tryz.ntmps240
    go_wp2
    go_ret2
    exact Ret.mk' rfl zqb
   ·have e1:geS 6 f=cut [65,66,67,68,69,70,71,72,73,75] (f - 1) f:=by unfold geS;rw [if_neg hbad,if_pos rfl,if_neg h0]
    have hb2:(f == 0)=false:=by simp;omega
    have g0:0≤f - 1:=by omega
    have g0':1≤f:=by omega
    have g1:f - 1≤f:=by omega
    have g2:f≤10:=by omega
    rw [e1,e2]
    go_enter Tryz.func240,Tryz.ntmps240
    go_wp2
    go_ret2
    exact Ret.mk' rfl zqb
  ·have hb1:(c == 6)=false:=by simp;omega
   by_cases h0:f=0
   ·subst h0
    have e1:geS c 0=dig2 (6 - c).toNat:=by unfold geS;rw [if_neg hbad,if_neg h6,if_pos rfl]
    rw [e1,e2]
    go_enter Tryz.func240,Tryz.ntmps240
    go_wp2_with (go_at_call 190;refine (itoa_any _ _ zqo zqo).mono ?_;rintro e w' ⟨rfl,rfl⟩)
    go_ret2
    exact Ret.mk' rfl zqb
   ·exact ge_symbol_t c f w ⟨hc0,by omega⟩ ⟨by omega,by omega⟩
end Go.Proofs.YtaeelcfjkhfpkaaGreat
