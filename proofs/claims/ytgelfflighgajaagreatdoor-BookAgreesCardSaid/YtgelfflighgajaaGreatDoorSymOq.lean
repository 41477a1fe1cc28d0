/- The symbols of the program's four systems: contracts. -/
import Derived.Shelf.Strings.OnBuilder
import Derived.Shelf.Small.Strs
import Derived.Shelf.Strconv.Itoa3
import Derived.Shelf.Strings.Repeat
import Derived.Shelf.Strings.BuilderCap
import Derived.Test.YtgelfflighgajaaGreatDoorProg
import Derived.Test.YtgelfflighgajaaGreatDoorCalmOq
import Derived.Deep.RegionHeld3
set_option maxHeartbeats 400000
set_option maxRecDepth 100000
set_option linter.unusedVariables false
set_option linter.unusedSimpArgs false
namespace Go.Proofs
open Go.Shelf
def Tryz.lays137_ren:Go.Shelf.Ren:=⟨fun|137=>211|217=>234|266=>248|n=>n,fun|9=>9|5=>5|3=>3|n=>n,fun|n=>n⟩
theorem Tryz.lays137:Go.Proofs.Lays.n137 Tryz.prog Tryz.lays137_ren:={
 mixed:=by kernel_rfl
 f137:=Tryz.func211.trans (congrArg some (by kernel_rfl))
 f217:=Tryz.func234.trans (congrArg some (by kernel_rfl))
 f266:=Tryz.func248.trans (congrArg some (by kernel_rfl))
 t3:=Tryz.underlying3
 a3:=Tryz.isAgg3
 z3:=Tryz.sizeOf3
 v3:=Tryz.zeroValue3
 t5:=Tryz.underlying5
 a5:=Tryz.isAgg5
 z5:=Tryz.sizeOf5
 v5:=Tryz.zeroValue5
 t9:=Tryz.underlying9
 a9:=Tryz.isAgg9
 z9:=Tryz.sizeOf9
 v9:=Tryz.zeroValue9 }
open Go.RowKit in
theorem Tryz.strings_IndexByte (s:ByteArray)(c:Int)(w:World) :
  Calls Tryz.prog 211 #[.string s,.int .u8 c] w fun e w'=>e=.returned (.int .i64 (Lib.indexByte s.data.toList c.toNat.toUInt8))∧w'=w:=Any.strings_IndexByte Tryz.lays137 s c w
def Tryz.laysM246_ren:Go.Shelf.Ren:=⟨fun|246=>215|283=>236|284=>237|285=>238|286=>239|129=>250|317=>249|318=>251|319=>252|320=>253|337=>255|338=>256|n=>n,fun|2=>2|3=>3|9=>9|4=>4|171=>334|0=>0|53=>322|37=>57|5=>5|173=>337|212=>344|51=>319|20=>20|213=>345|46=>277|232=>348|233=>349|n=>n,fun|17=>3|18=>4|19=>5|n=>n⟩
def Tryz.laysM243_ren:Go.Shelf.Ren:=⟨fun|243=>176|246=>215|283=>236|284=>237|285=>238|286=>239|129=>250|317=>249|318=>251|319=>252|320=>253|337=>255|338=>256|n=>n,fun|3=>3|9=>9|2=>2|4=>4|171=>334|0=>0|53=>322|37=>57|5=>5|173=>337|212=>344|51=>319|20=>20|213=>345|46=>277|232=>348|233=>349|n=>n,fun|17=>3|18=>4|19=>5|n=>n⟩
def Tryz.laysM171_ren:Go.Shelf.Ren:=⟨fun|171=>116|243=>176|246=>215|283=>236|284=>237|285=>238|286=>239|129=>250|317=>249|318=>251|319=>252|320=>253|337=>255|338=>256|n=>n,fun|3=>3|9=>9|2=>2|4=>4|171=>334|0=>0|53=>322|37=>57|5=>5|173=>337|212=>344|51=>319|20=>20|213=>345|46=>277|232=>348|233=>349|n=>n,fun|17=>3|18=>4|19=>5|n=>n⟩
theorem Tryz.laysM171:Go.Proofs.LaysM.n171 Tryz.prog Tryz.laysM171_ren:={
 mixed:=by kernel_rfl
 f129:=Tryz.func250.trans (congrArg some (by kernel_rfl))
 f171:=Tryz.func116.trans (congrArg some (by kernel_rfl))
 f243:=Tryz.func176.trans (congrArg some (by kernel_rfl))
 f246:=Tryz.func215.trans (congrArg some (by kernel_rfl))
 f283:=Tryz.func236.trans (congrArg some (by kernel_rfl))
 f284:=Tryz.func237.trans (congrArg some (by kernel_rfl))
 f285:=Tryz.func238.trans (congrArg some (by kernel_rfl))
 f286:=Tryz.func239.trans (congrArg some (by kernel_rfl))
 f317:=Tryz.func249.trans (congrArg some (by kernel_rfl))
 f318:=Tryz.func251.trans (congrArg some (by kernel_rfl))
 f319:=Tryz.func252.trans (congrArg some (by kernel_rfl))
 f320:=Tryz.func253.trans (congrArg some (by kernel_rfl))
 f337:=Tryz.func255.trans (congrArg some (by kernel_rfl))
 f338:=Tryz.func256.trans (congrArg some (by kernel_rfl))
 t0:=Tryz.underlying0
 a0:=Tryz.isAgg0
 z0:=Tryz.sizeOf0
 v0:=Tryz.zeroValue0
 t2:=Tryz.underlying2
 a2:=Tryz.isAgg2
 z2:=Tryz.sizeOf2
 v2:=Tryz.zeroValue2
 t3:=Tryz.underlying3
 a3:=Tryz.isAgg3
 z3:=Tryz.sizeOf3
 v3:=Tryz.zeroValue3
 t4:=Tryz.underlying4
 a4:=Tryz.isAgg4
 z4:=Tryz.sizeOf4
 v4:=Tryz.zeroValue4
 t5:=Tryz.underlying5
 a5:=Tryz.isAgg5
 z5:=Tryz.sizeOf5
 v5:=Tryz.zeroValue5
 t9:=Tryz.underlying9
 a9:=Tryz.isAgg9
 z9:=Tryz.sizeOf9
 v9:=Tryz.zeroValue9
 t20:=Tryz.underlying20
 a20:=Tryz.isAgg20
 z20:=Tryz.sizeOf20
 v20:=Tryz.zeroValue20
 t37:=Tryz.underlying57
 a37:=Tryz.isAgg57
 z37:=Tryz.sizeOf57
 v37:=Tryz.zeroValue57
 t46:=Tryz.underlying277
 a46:=Tryz.isAgg277
 z46:=Tryz.sizeOf277
 v46:=Tryz.zeroValue277
 t51:=Tryz.underlying319
 a51:=Tryz.isAgg319
 z51:=Tryz.sizeOf319
 v51:=Tryz.zeroValue319
 t53:=Tryz.underlying322
 a53:=Tryz.isAgg322
 z53:=Tryz.sizeOf322
 v53:=Tryz.zeroValue322
 t171:=Tryz.underlying334
 a171:=Tryz.isAgg334
 z171:=Tryz.sizeOf334
 v171:=Tryz.zeroValue334
 t173:=Tryz.underlying337
 a173:=Tryz.isAgg337
 z173:=Tryz.sizeOf337
 v173:=Tryz.zeroValue337
 t212:=Tryz.underlying344
 a212:=Tryz.isAgg344
 z212:=Tryz.sizeOf344
 v212:=Tryz.zeroValue344
 t213:=Tryz.underlying345
 a213:=Tryz.isAgg345
 z213:=Tryz.sizeOf345
 t232:=Tryz.underlying348
 a232:=Tryz.isAgg348
 z232:=Tryz.sizeOf348
 v232:=Tryz.zeroValue348
 t233:=Tryz.underlying349
 a233:=Tryz.isAgg349
 z233:=Tryz.sizeOf349
 v233:=Tryz.zeroValue349
 g17:=by kernel_rfl
 g18:=by kernel_rfl
 g19:=by kernel_rfl
 i0:=by kernel_rfl
 i2:=by kernel_rfl
 i3:=by kernel_rfl
 i4:=by kernel_rfl
 i5:=by kernel_rfl
 i9:=by kernel_rfl
 i20:=by kernel_rfl
 i37:=by kernel_rfl
 i46:=by kernel_rfl
 i51:=by kernel_rfl
 i53:=by kernel_rfl
 i171:=by kernel_rfl
 i173:=by kernel_rfl
 i212:=by kernel_rfl
 i232:=by kernel_rfl
 i233:=by kernel_rfl
 m17:=by kernel_rfl
 m18:=by kernel_rfl
 m19:=by kernel_rfl }
open Go.RowKit Go.Sort Go.Lib in
theorem Tryz.strconv_Itoa (n:Int) (h0:-9223372036854775808≤n) (h1:n≤9223372036854775807) (w:World) (htab:Lib.TabIs Tryz.prog w "internal/strconv.uint64pow10" .u64 Lib.pow10Tab) :
  Calls Tryz.prog 116 #[.int .i64 n] w fun e w'=>e=.returned (.string ⟨(Lib.itoa n).toArray⟩)∧∃ k os,w'=grow (w.drewN k) os:=Any.strconv_Itoa Tryz.laysM171 n h0 h1 w htab
def Tryz.lays171_ren:Go.Shelf.Ren:=⟨fun|171=>116|243=>176|246=>215|283=>236|284=>237|285=>238|286=>239|129=>250|317=>249|318=>251|319=>252|320=>253|337=>255|338=>256|n=>n,fun|3=>3|9=>9|2=>2|4=>4|171=>334|0=>0|53=>322|37=>57|5=>5|173=>337|212=>344|51=>319|20=>20|213=>345|46=>277|232=>348|233=>349|n=>n,fun|17=>3|18=>4|19=>5|n=>n⟩
theorem Tryz.lays171:Go.Proofs.Lays.n171 Tryz.prog Tryz.lays171_ren:={
 mixed:=by kernel_rfl
 f129:=Tryz.func250.trans (congrArg some (by kernel_rfl))
 f171:=Tryz.func116.trans (congrArg some (by kernel_rfl))
 f243:=Tryz.func176.trans (congrArg some (by kernel_rfl))
 f246:=Tryz.func215.trans (congrArg some (by kernel_rfl))
 f283:=Tryz.func236.trans (congrArg some (by kernel_rfl))
 f284:=Tryz.func237.trans (congrArg some (by kernel_rfl))
 f285:=Tryz.func238.trans (congrArg some (by kernel_rfl))
 f286:=Tryz.func239.trans (congrArg some (by kernel_rfl))
 f317:=Tryz.func249.trans (congrArg some (by kernel_rfl))
 f318:=Tryz.func251.trans (congrArg some (by kernel_rfl))
 f319:=Tryz.func252.trans (congrArg some (by kernel_rfl))
 f320:=Tryz.func253.trans (congrArg some (by kernel_rfl))
 f337:=Tryz.func255.trans (congrArg some (by kernel_rfl))
 f338:=Tryz.func256.trans (congrArg some (by kernel_rfl))
 t0:=Tryz.underlying0
 a0:=Tryz.isAgg0
 z0:=Tryz.sizeOf0
 v0:=Tryz.zeroValue0
 t2:=Tryz.underlying2
 a2:=Tryz.isAgg2
 z2:=Tryz.sizeOf2
 v2:=Tryz.zeroValue2
 t3:=Tryz.underlying3
 a3:=Tryz.isAgg3
 z3:=Tryz.sizeOf3
 v3:=Tryz.zeroValue3
 t4:=Tryz.underlying4
 a4:=Tryz.isAgg4
 z4:=Tryz.sizeOf4
 v4:=Tryz.zeroValue4
 t5:=Tryz.underlying5
 a5:=Tryz.isAgg5
 z5:=Tryz.sizeOf5
 v5:=Tryz.zeroValue5
 t9:=Tryz.underlying9
 a9:=Tryz.isAgg9
 z9:=Tryz.sizeOf9
 v9:=Tryz.zeroValue9
 t20:=Tryz.underlying20
 a20:=Tryz.isAgg20
 z20:=Tryz.sizeOf20
 v20:=Tryz.zeroValue20
 t37:=Tryz.underlying57
 a37:=Tryz.isAgg57
 z37:=Tryz.sizeOf57
 v37:=Tryz.zeroValue57
 t46:=Tryz.underlying277
 a46:=Tryz.isAgg277
 z46:=Tryz.sizeOf277
 v46:=Tryz.zeroValue277
 t51:=Tryz.underlying319
 a51:=Tryz.isAgg319
 z51:=Tryz.sizeOf319
 v51:=Tryz.zeroValue319
 t53:=Tryz.underlying322
 a53:=Tryz.isAgg322
 z53:=Tryz.sizeOf322
 v53:=Tryz.zeroValue322
 t171:=Tryz.underlying334
 a171:=Tryz.isAgg334
 z171:=Tryz.sizeOf334
 v171:=Tryz.zeroValue334
 t173:=Tryz.underlying337
 a173:=Tryz.isAgg337
 z173:=Tryz.sizeOf337
 v173:=Tryz.zeroValue337
 t212:=Tryz.underlying344
 a212:=Tryz.isAgg344
 z212:=Tryz.sizeOf344
 v212:=Tryz.zeroValue344
 t213:=Tryz.underlying345
 a213:=Tryz.isAgg345
 z213:=Tryz.sizeOf345
 t232:=Tryz.underlying348
 a232:=Tryz.isAgg348
 z232:=Tryz.sizeOf348
 v232:=Tryz.zeroValue348
 t233:=Tryz.underlying349
 a233:=Tryz.isAgg349
 z233:=Tryz.sizeOf349
 v233:=Tryz.zeroValue349
 g17:=by kernel_rfl
 g18:=by kernel_rfl
 g19:=by kernel_rfl }
open Go.RowKit Go.Sort Go.Lib in
theorem Tryz.strconv_Itoa_small (i:Nat) (hi:i<100) (w:World) :
  Calls Tryz.prog 116 #[.int .i64 i] w fun e w'=>e=.returned (.string ⟨(Lib.decDigits i).toArray⟩)∧w'=w:=Any.strconv_Itoa_small Tryz.lays171 i hi w
def Tryz.lays105_ren:Go.Shelf.Ren:=⟨fun|105=>141|212=>193|99=>194|165=>174|166=>58|170=>195|169=>59|263=>222|264=>223|206=>224|240=>125|241=>213|276=>184|277=>235|n=>n,fun|9=>9|3=>3|4=>4|20=>20|0=>0|46=>277|109=>278|5=>5|72=>109|76=>113|51=>319|146=>320|53=>322|148=>323|70=>107|37=>57|75=>112|127=>202|164=>266|80=>115|n=>n,fun|n=>n⟩
theorem Tryz.lays105:Go.Proofs.Lays.n105 Tryz.prog Tryz.lays105_ren:={
 mixed:=by kernel_rfl
 f99:=Tryz.func194.trans (congrArg some (by kernel_rfl))
 f105:=Tryz.func141.trans (congrArg some (by kernel_rfl))
 f165:=Tryz.func174.trans (congrArg some (by kernel_rfl))
 f166:=Tryz.func58.trans (congrArg some (by kernel_rfl))
 f169:=Tryz.func59.trans (congrArg some (by kernel_rfl))
 f170:=Tryz.func195.trans (congrArg some (by kernel_rfl))
 f206:=Tryz.func224.trans (congrArg some (by kernel_rfl))
 f212:=Tryz.func193.trans (congrArg some (by kernel_rfl))
 f240:=Tryz.func125.trans (congrArg some (by kernel_rfl))
 f241:=Tryz.func213.trans (congrArg some (by kernel_rfl))
 f263:=Tryz.func222.trans (congrArg some (by kernel_rfl))
 f264:=Tryz.func223.trans (congrArg some (by kernel_rfl))
 f276:=Tryz.func184.trans (congrArg some (by kernel_rfl))
 f277:=Tryz.func235.trans (congrArg some (by kernel_rfl))
 t0:=Tryz.underlying0
 a0:=Tryz.isAgg0
 z0:=Tryz.sizeOf0
 v0:=Tryz.zeroValue0
 t3:=Tryz.underlying3
 a3:=Tryz.isAgg3
 z3:=Tryz.sizeOf3
 v3:=Tryz.zeroValue3
 t4:=Tryz.underlying4
 a4:=Tryz.isAgg4
 z4:=Tryz.sizeOf4
 v4:=Tryz.zeroValue4
 t5:=Tryz.underlying5
 a5:=Tryz.isAgg5
 z5:=Tryz.sizeOf5
 v5:=Tryz.zeroValue5
 t9:=Tryz.underlying9
 a9:=Tryz.isAgg9
 z9:=Tryz.sizeOf9
 v9:=Tryz.zeroValue9
 t20:=Tryz.underlying20
 a20:=Tryz.isAgg20
 z20:=Tryz.sizeOf20
 v20:=Tryz.zeroValue20
 t37:=Tryz.underlying57
 a37:=Tryz.isAgg57
 z37:=Tryz.sizeOf57
 v37:=Tryz.zeroValue57
 t46:=Tryz.underlying277
 a46:=Tryz.isAgg277
 z46:=Tryz.sizeOf277
 v46:=Tryz.zeroValue277
 t51:=Tryz.underlying319
 a51:=Tryz.isAgg319
 z51:=Tryz.sizeOf319
 v51:=Tryz.zeroValue319
 t53:=Tryz.underlying322
 a53:=Tryz.isAgg322
 z53:=Tryz.sizeOf322
 v53:=Tryz.zeroValue322
 t70:=Tryz.underlying107
 a70:=Tryz.isAgg107
 z70:=Tryz.sizeOf107
 v70:=Tryz.zeroValue107
 t72:=Tryz.underlying109
 a72:=Tryz.isAgg109
 z72:=Tryz.sizeOf109
 v72:=Tryz.zeroValue109
 t75:=Tryz.underlying112
 a75:=Tryz.isAgg112
 z75:=Tryz.sizeOf112
 v75:=Tryz.zeroValue112
 t76:=Tryz.underlying113
 a76:=Tryz.isAgg113
 z76:=Tryz.sizeOf113
 v76:=Tryz.zeroValue113
 t109:=Tryz.underlying278
 a109:=Tryz.isAgg278
 z109:=Tryz.sizeOf278
 v109:=Tryz.zeroValue278
 t127:=Tryz.underlying202
 a127:=Tryz.isAgg202
 z127:=Tryz.sizeOf202
 v127:=Tryz.zeroValue202
 t146:=Tryz.underlying320
 a146:=Tryz.isAgg320
 z146:=Tryz.sizeOf320
 v146:=Tryz.zeroValue320
 t148:=Tryz.underlying323
 a148:=Tryz.isAgg323
 z148:=Tryz.sizeOf323
 v148:=Tryz.zeroValue323
 t164:=Tryz.underlying266
 a164:=Tryz.isAgg266
 z164:=Tryz.sizeOf266
 v164:=Tryz.zeroValue266 }
theorem Tryz.Builder_Extra_105:Builder.Extra Tryz.prog Tryz.lays105_ren:={
 sizeBuilder:=by kernel_rfl
 liesBuilder:=by kernel_rfl
 t5:=Tryz.underlying5
 a5:=Tryz.isAgg5
 z5:=Tryz.sizeOf5
 v5:=Tryz.zeroValue5
 infoByte:=by kernel_rfl
 cellsByte:=by kernel_rfl
 sizeByte:=by kernel_rfl
 neB5:=by decide }
open Go.RowKit Go.Lib in
theorem Tryz.strings_Repeat (s:ByteArray) (c:Nat) (w:World) (hc:c≤9223372036854775807) (hlen:s.size*c≤140737488355328) :
  Calls Tryz.prog 141 #[.string s,.int .i64 c] w fun e w'=>e=.returned (.string ⟨(Lib.repeatL s.data.toList c).toArray⟩)∧Below w.heap.size w w':=Any.strings_Repeat Tryz.lays105 Tryz.Builder_Extra_105 s c w hc hlen
end Go.Proofs
namespace Go.Proofs.YtgelfflighgajaaGreatDoor
open Go.RowKit
attribute [local go_sem]mk_bs bs_size bs_toList bs_append bs_extract
attribute [local simp]run_cut run_cut_to run_cut_from run_add_bs
def dig2 (u:Nat):List UInt8:=if u<10 then [UInt8.ofNat (48+u)]else [UInt8.ofNat (48+u/10),UInt8.ofNat (48+u % 10)]
theorem decDigits_dig2 (u:Nat)(h:u<100):Lib.decDigits u=dig2 u:=by
 unfold dig2
 by_cases h1:u<10
 ·rw [if_pos h1,Lib.decDigits,dif_pos h1]
 ·rw [if_neg h1,Lib.decDigits,dif_neg h1,Lib.decDigits,dif_pos (by omega)];rfl
theorem itoa_any (n:Int)(w:World)(h0:0≤n)(h1:n<100) :
  Calls Tryz.prog 116 #[.int .i64 n] w fun e w'=>e=.returned (.string (bs (dig2 n.toNat)))∧w'=w:=by
 obtain⟨k,rfl⟩:=Int.eq_ofNat_of_zero_le h0
 rw [Int.toNat_natCast,← decDigits_dig2 k (by omega)]
 exact Tryz.strconv_Itoa_small k zqo w
theorem repeat_any (l:List UInt8) (c:Int) (w:World) (h0:0≤c) (h1:c≤100) (h2:l.length≤100) :
  Calls Tryz.prog 141 #[.string (bs l),.int .i64 c] w (Ret (.string (bs (Lib.repeatL l c.toNat))) w):=by
 obtain ⟨k,rfl⟩:=Int.eq_ofNat_of_zero_le h0
 have hk:l.length*k≤100*100:=Nat.mul_le_mul h2 zqo
 exact Tryz.strings_Repeat (bs l) k w (by omega) (by rw [bs_size];omega)
def frS (c f:Int):List UInt8 :=
 if 11≤c then dig2 (c-7).toNat else Lib.repeatL [47] (max (c-7) 0).toNat++cut [97,98,99,100,101,102,103,104,105,107,108,109,110,111,112,113,114,115,116] f (f+1)
def frOk(c f:Int):Bool:=if 11≤c then f == 0 else true
theorem fr_symbol_low (c f:Int) (w:World) (hc:11≤c) (hc':c≤14) (hf:0≤f) (hf':f≤18) :
  Calls Tryz.prog 280 #[.agg #[],.agg #[.int .i64 c,.int .i64 f]] w (Ret (.tuple #[.string (bs (frS c f)),.bool (frOk c f)]) w):=by
 have e1:frS c f=dig2 (c - 7).toNat:=if_pos hc
 have e2:frOk c f=(f == 0):=if_pos hc
 rw [e1,e2]
 go_enter Tryz.func280,Tryz.ntmps280
 go_wp2
 go_quiet ((go_at_call 116;exact Calls.quiet_of_same (itoa_any _ _ zqo zqo)))
 go_wp2
 go_ret2
 exact Ret.mk' rfl zqb
theorem fr_symbol_high (c f:Int) (w:World) (hc:1≤c) (hc':c≤10) (hf:0≤f) (hf':f≤18) :
  Calls Tryz.prog 280 #[.agg #[],.agg #[.int .i64 c,.int .i64 f]] w (Ret (.tuple #[.string (bs (frS c f)),.bool (frOk c f)]) w):=by
 have e1:frS c f=Lib.repeatL [47] (max (c - 7) 0).toNat++cut [97,98,99,100,101,102,103,104,105,107,108,109,110,111,112,113,114,115,116] f (f+1):=if_neg zqo
 have e2:frOk c f=true:=if_neg zqo
 have m0:0≤max (c - 7) 0:=by omega
 have m1:max (c - 7) 0≤100:=by omega
 have hsz:(Lib.repeatL [47] (max (c - 7) 0).toNat).length≤100:=by simp [Lib.repeatL_length];omega
 have g0:0≤f+1:=by omega
 have g1:f+1≤19:=by omega
 have g2:(Lib.repeatL [47] (max (c - 7) 0).toNat).length+(cut [97,98,99,100,101,102,103,104,105,107,108,109,110,111,112,113,114,115,116] f (f+1)).length≤9223372036854775807:=by
  have:=cut_length [97,98,99,100,101,102,103,104,105,107,108,109,110,111,112,113,114,115,116] f (f+1)
  simp at this;omega
 have g3:f≤f+1:=by omega
 have hc11:¬ 11≤c:=by omega
 have e7:IntKind.i64.wrap (c - 7)=c - 7:=IntWalk.i64_in _ zqo
 have e8:IntKind.i64.wrap (f+1)=f+1:=IntWalk.i64_in _ zqo
 rw [e1,e2]
 go_enter Tryz.func280,Tryz.ntmps280
 go_wp2
 go_region_held3 (fun w'=>w'.cell? ⟨w.heap.size+1,0,none⟩=some (.int .i64 c)∧w'.cell? ⟨w.heap.size+1,1,none⟩=some (.int .i64 f))
  (first|(simp [bc];done)|go_keep)
  ((go_at_call 141;refine (repeat_any _ _ _ m0 m1 (by simp)).mono ?_;rintro e w' ⟨rfl,hb⟩;obtain ⟨bc,bf⟩:=bcell hb))
 go_wp2
 go_ret2
 exact Ret.mk' rfl zqb
theorem fr_symbol (c f:Int)(w:World)(hc:1≤c∧c≤14)(hf:0≤f∧f≤18) :
  Calls Tryz.prog 280 #[.agg #[],.agg #[.int .i64 c,.int .i64 f]] w (Ret (.tuple #[.string (bs (frS c f)),.bool (frOk c f)]) w):=by
 by_cases h:11≤c
 ·exact fr_symbol_low c f w h hc.2 hf.1 hf.2
 ·exact fr_symbol_high c f w hc.1 zqo hf.1 hf.2
def figS(f:Int):List UInt8:=if f≤9 then dig2 f.toNat else if f=10 then [120]else []
def figOk (f:Int):Bool:=decide (f≤10)
theorem figure_any (f:Int) (w:World) (hf:0≤f∧f≤18) :
  Calls Tryz.prog 282 #[.agg #[],.int .i64 f] w (Ret (.tuple #[.string (bs (figS f)),.bool (figOk f)]) w):=by
 obtain ⟨h0,h1⟩:=hf
 by_cases h9:f≤9
 ·have e1:figS f=dig2 f.toNat:=if_pos h9
  have e2:figOk f=true:=decide_eq_true zqo
  rw [e1,e2]
  go_enter Tryz.func282,Tryz.ntmps282
  go_wp2_with (go_at_call 116;refine (itoa_any _ _ zqo zqo).mono ?_;rintro e w' ⟨rfl,rfl⟩)
  go_ret2
  exact Ret.mk' rfl zqb
 ·by_cases h10:f=10
  ·subst h10
   go_enter Tryz.func282,Tryz.ntmps282
   go_wp2
   go_ret2
   exact Ret.mk' rfl zqb
  ·have e1:figS f=[]:=by unfold figS;rw [if_neg h9,if_neg h10]
   have e2:figOk f=false:=decide_eq_false zqo
   have hb:(f == 10)=false:=by simp;exact h10
   rw [e1,e2]
   go_enter Tryz.func282,Tryz.ntmps282
   go_wp2
   go_ret2
   exact Ret.mk' rfl zqb
def itS(c f:Int):List UInt8:=if c≤6 then figS f else if c=10 then [120]else dig2 c.toNat
def itOk(c f:Int):Bool:=if c≤6 then figOk f else f == 0
theorem it_symbol (c f:Int) (w:World) (hc:1≤c∧c≤14) (hf:0≤f∧f≤18) :
  Calls Tryz.prog 290 #[.agg #[],.agg #[.int .i64 c,.int .i64 f]] w (Ret (.tuple #[.string (bs (itS c f)),.bool (itOk c f)]) w):=by
 obtain ⟨hc0,hc1⟩:=hc
 have hp:∀ (w:World) (o:Obj),(partAt ⟨w.heap.size,0,none⟩ 0 0).run Tryz.prog ((w.alloc (.cells #[] 257)).alloc o)=.ok ⟨w.heap.size,0,none⟩ ((w.alloc (.cells #[] 257)).alloc o) :=
  fun w o=>run_partAt_zero _ _ _ _ (heap_alloc2 w _ o) zqk
 by_cases h6:c≤6
 ·have e1:itS c f=figS f:=if_pos h6
  have e2:itOk c f=figOk f:=if_pos h6
  rw [e1,e2]
  go_enter Tryz.func290,Tryz.ntmps290
  go_wp2_with (go_at_call 282;refine (figure_any _ _ hf).mono ?_;rintro e w' ⟨rfl,hb⟩)
  go_ret2
  exact Ret.mk' rfl zqb
 ·have e2:itOk c f=(f == 0):=if_neg h6
  by_cases h10:c=10
  ·subst h10
   rw [e2]
   go_enter Tryz.func290,Tryz.ntmps290
   go_wp2
   go_quiet (fail)
   go_wp2
   go_ret2
   exact Ret.mk' rfl zqb
  ·have e1:itS c f=dig2 c.toNat:=by unfold itS;rw [if_neg h6,if_neg h10]
   have hb:(c == 10)=false:=by simp;exact h10
   rw [e1,e2]
   go_enter Tryz.func290,Tryz.ntmps290
   go_wp2
   go_quiet ((go_at_call 116;exact Calls.quiet_of_same (itoa_any _ _ zqo zqo)))
   go_wp2
   go_ret2
   exact Ret.mk' rfl zqb
def spS(c f:Int):List UInt8:=if c≤6 then figS f else []
def spOk(c f:Int):Bool:=if c≤6 then figOk f else false
theorem sp_symbol (c f:Int) (w:World) (hf:0≤f∧f≤18) :
  Calls Tryz.prog 298 #[.agg #[],.agg #[.int .i64 c,.int .i64 f]] w (Ret (.tuple #[.string (bs (spS c f)),.bool (spOk c f)]) w):=by
 have hp:∀ (w:World) (o:Obj),(partAt ⟨w.heap.size,0,none⟩ 0 0).run Tryz.prog ((w.alloc (.cells #[] 259)).alloc o)=.ok ⟨w.heap.size,0,none⟩ ((w.alloc (.cells #[] 259)).alloc o) :=
  fun w o=>run_partAt_zero _ _ _ _ (heap_alloc2 w _ o) zqk
 by_cases h6:c≤6
 ·have e1:spS c f=figS f:=if_pos h6
  have e2:spOk c f=figOk f:=if_pos h6
  have h6':¬ 6 < c:=by omega
  rw [e1,e2]
  go_enter Tryz.func298,Tryz.ntmps298
  go_wp2_with (go_at_call 282;refine (figure_any _ _ hf).mono ?_;rintro e w' ⟨rfl,hb⟩)
  go_ret2
  exact Ret.mk' rfl zqb
 ·have e1:spS c f=[]:=if_neg h6
  have e2:spOk c f=false:=if_neg h6
  have h6':6 < c:=by omega
  rw [e1,e2]
  go_enter Tryz.func298,Tryz.ntmps298
  go_wp2
  go_ret2
  exact Ret.mk' rfl zqb
def small:List UInt8:=[97,98,99,100,101,102,103,104,105,107,108,109,110,111,112,113,114,115,116,118,120,121,122,38,57]
def geAt(c f:Int):Int:=(f-1) % 5*5+5-c
def geS (c f:Int):List UInt8 :=
 if 6<c∨10<f then [] else if c=6 then (if f=0 then [43] else cut [65,66,67,68,69,70,71,72,73,75] (f-1) f)
 else if f=0 then dig2 (6-c).toNat else Lib.repeatL (cut small (geAt c f) (geAt c f+1)) ((f+4)/5).toNat
def geOk (c f:Int):Bool:=decide (c≤6∧f≤10)
theorem ge_symbol_t (c f:Int) (w:World) (hc:1≤c∧c≤5) (hf:1≤f∧f≤10) :
  Calls Tryz.prog 305 #[.agg #[],.agg #[.int .i64 c,.int .i64 f]] w (Ret (.tuple #[.string (bs (geS c f)),.bool (geOk c f)]) w):=by
 obtain ⟨hc0,hc1⟩:=hc
 obtain ⟨hf0,hf1⟩:=hf
 have e1:geS c f=Lib.repeatL (cut small (geAt c f) (geAt c f+1)) ((f+4)/5).toNat:=by
  unfold geS;rw [if_neg (by omega),if_neg (by omega),if_neg (by omega)]
 have e2:geOk c f=true:=decide_eq_true zqo
 rw [e1,e2]
 unfold geAt small
 have hb1:(c == 6)=false:=by simp;omega
 have hb2:(f == 0)=false:=by simp;omega
 have g0:0≤(f - 1) % 5*5+5 - c:=by omega
 have g0':c≤(f - 1) % 5*5+5:=by omega
 have g2':(f - 1) % 5*5+5 - c≤24:=by omega
 have g1:(f - 1) % 5*5+5 - c≤(f - 1) % 5*5+5 - c+1:=by omega
 have g2:(f - 1) % 5*5+5 - c+1≤25:=by omega
 have g3:0≤f+4:=by omega
 have q0:0≤(f+4)/5:=by omega
 have q1:(f+4)/5≤100:=by omega
 have ql:=cut_length [97,98,99,100,101,102,103,104,105,107,108,109,110,111,112,113,114,115,116,118,120,121,122,38,57] ((f - 1) % 5*5+5 - c) ((f - 1) % 5*5+5 - c+1)
 have ql':(cut [97,98,99,100,101,102,103,104,105,107,108,109,110,111,112,113,114,115,116,118,120,121,122,38,57] ((f - 1) % 5*5+5 - c) ((f - 1) % 5*5+5 - c+1)).length≤100:=Nat.le_trans ql (by decide)
 clear ql
 have w1:IntKind.i64.wrap ((f - 1) % 5*5+5 - c+1)=(f - 1) % 5*5+5 - c+1:=IntWalk.i64_in _ zqo
 have w2:IntKind.i64.wrap (f+4)=f+4:=IntWalk.i64_in _ zqo
 have w3:IntKind.i64.wrap ((f+4).tdiv 5)=(f+4)/5:=by rw [Int.tdiv_eq_ediv_of_nonneg (by omega)];exact IntWalk.i64_in _ (by omega)
 go_enter Tryz.func305,Tryz.ntmps305
 go_wp2
 go_region_held3 (fun w'=>w'.cell? ⟨w.heap.size+1,0,none⟩=some (.int .i64 c)∧w'.cell? ⟨w.heap.size+1,1,none⟩=some (.int .i64 f))
  (first|(simp [bc];done)|go_keep)
  ((go_at_call 141;refine (repeat_any _ _ _ q0 q1 ql').mono ?_;rintro e w' ⟨rfl,hb⟩;obtain ⟨bc,bf⟩:=bcell hb))
 go_wp2
 go_ret2
 exact Ret.mk' rfl zqb
theorem ge_symbol (c f:Int) (w:World) (hc:1≤c∧c≤14) (hf:0≤f∧f≤18) :
  Calls Tryz.prog 305 #[.agg #[],.agg #[.int .i64 c,.int .i64 f]] w (Ret (.tuple #[.string (bs (geS c f)),.bool (geOk c f)]) w):=by
 obtain ⟨hc0,hc1⟩:=hc
 obtain ⟨hf0,hf1⟩:=hf
 by_cases hbad:6 < c∨10 < f
 ·have e1:geS c f=[]:=if_pos hbad
  have e2:geOk c f=false:=decide_eq_false zqo
  rw [e1,e2]
  by_cases h6:6 < c
  ·go_enter Tryz.func305,Tryz.ntmps305
   go_wp2
   go_ret2
   exact Ret.mk' rfl zqb
  ·have h10:10 < f:=by omega
   go_enter Tryz.func305,Tryz.ntmps305
   go_wp2
   go_ret2
   exact Ret.mk' rfl zqb
 ·have e2:geOk c f=true:=decide_eq_true zqo
  have k1:¬ 6 < c:=by omega
  have k2:¬ 10 < f:=by omega
  by_cases h6:c=6
  ·subst h6
   by_cases h0:f=0
   ·subst h0
    rw [e2]
    go_enter Tryz.func305,Tryz.ntmps305
    go_wp2
    go_ret2
    exact Ret.mk' rfl zqb
   ·have e1:geS 6 f=cut [65,66,67,68,69,70,71,72,73,75] (f - 1) f:=by unfold geS;rw [if_neg hbad,if_pos rfl,if_neg h0]
    have hb2:(f == 0)=false:=by simp;omega
    have g0:0≤f - 1:=by omega
    have g0':1≤f:=by omega
    have g1:f - 1≤f:=by omega
    have g2:f≤10:=by omega
    rw [e1,e2]
    go_enter Tryz.func305,Tryz.ntmps305
    go_wp2
    go_ret2
    exact Ret.mk' rfl zqb
  ·have hb1:(c == 6)=false:=by simp;omega
   by_cases h0:f=0
   ·subst h0
    have e1:geS c 0=dig2 (6 - c).toNat:=by unfold geS;rw [if_neg hbad,if_neg h6,if_pos rfl]
    rw [e1,e2]
    go_enter Tryz.func305,Tryz.ntmps305
    go_wp2_with (go_at_call 116;refine (itoa_any _ _ zqo zqo).mono ?_;rintro e w' ⟨rfl,rfl⟩)
    go_ret2
    exact Ret.mk' rfl zqb
   ·exact ge_symbol_t c f w ⟨hc0,by omega⟩ ⟨by omega,by omega⟩
end Go.Proofs.YtgelfflighgajaaGreatDoor
