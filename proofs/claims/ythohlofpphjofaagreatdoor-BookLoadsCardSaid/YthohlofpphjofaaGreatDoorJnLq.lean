/- strings.Join: its contract. (The tool does not lay it here, for its closure's table of numbers; the bodies are the same.) -/
import Derived.Test.YthohlofpphjofaaGreatDoorE5Lq
import Derived.Shelf.Strings.OnBuilder
import Derived.Shelf.Small.Strs
import Derived.Shelf.Strings.BuilderK
import Derived.Shelf.Strconv.Itoa3
import Derived.Shelf.Strings.Shaped
import Derived.Shelf.Strings.SplitShaped
import Derived.Shelf.Strings.Repeat
import Derived.Shelf.Unicode.DecodeSlow
import Derived.Shelf.Slices.Clone
import Derived.Shelf.Slices.SearchI
import Derived.Shelf.SlicesE.Clone
import Derived.Test.YthohlofpphjofaaGreatDoorProg
import Derived.BigQuiet
import Derived.Deep.RegionHeld3
import Derived.Lib.AtoiAll
set_option maxHeartbeats 800000
set_option maxRecDepth 100000
set_option linter.unusedVariables false
set_option linter.unusedSimpArgs false
namespace Go.Proofs.YthohlofpphjofaaGreatDoor
theorem Rt {p:Prop}(h:p:=by rw [dI];omega):p:=h
section
variable {p:Prop}
theorem ang(h:p:=by
 go_enter Tryz.func328,Tryz.ntmps328;go_wp2;exact vJ):p:=h
theorem anb(h:p:=by
 have hb:(f == 0)=false:=by simp;exact h0
 rw [e1];exact OC):p:=h
theorem ace(h:p:=by
 go_enter Tryz.func76,Tryz.ntmps76;exact aed):p:=h
theorem am2(h:p:=by
 go_wp2_with (go_at_call 328;refine (Zf _ _ hf).mono ?_;rintro e w' ⟨rfl,hb⟩);exact vJ):p:=h
theorem am0(h:p:=by
 go_wp2_with (go_at_call 108;refine (Et _ _ au au).mono ?_;rintro e w' ⟨rfl,rfl⟩);exact vJ):p:=h
theorem U4(h:p:=by
 go_enter Tryz.func247,Tryz.ntmps247;exact aed):p:=h
theorem U3(h:p:=by
 go_enter Tryz.func351,Tryz.ntmps351;go_wp2;exact vJ):p:=h
theorem UQ(h:p:=by rw [pX h];rfl):p:=h
theorem aed(h:p:=by
 go_wp2;go_ret;exact ⟨rfl,rfl⟩):p:=h
theorem OC(h:p:=by
 go_enter Tryz.func201,Tryz.ntmps201;go_wp2_with fail;go_ret;exact iZ.mk' rfl CU):p:=h
theorem vJ(h:p:=by
 go_ret2;exact iZ.mk' rfl CU):p:=h
end
section
open Go.RowKit
def nG(x:Int):List Value:=[.int .i64 x]
def mO(x:Int×Int×Bool):List Value:=[.int .i64 x.1,.int .i64 x.2.1,.bool x.2.2]
def iI (last:Int):List Int->Bool
 | []=>false| x::r=>decide (x<=last\/127<x)|| iI x r
def Au (st:List Int)(x:Int×Int×Bool):Int:=(x.1+if 0<x.2.1 then st.getD (x.2.1.toNat-1) 0 else 0)+if x.2.2 then 12 else 0
def Eh (st:List Int):List (Int×Int×Bool)->Int
 | []=>0| x::r=>if x.2.1<0\/(st.length:Int)<x.2.1 then 13 else if (x.1<0\/127<x.1)\/127<Au st x then 10 else Eh st r
def jW (cs:List (Int×Int×Bool))(st:List Int):Int :=if 14<cs.length\/18<st.length then 2 else if cs.length=0 then 11 else if iI 0 st=true then 11 else Eh st cs
theorem Ya {last:Int} {st:List Int} {k:Nat} (h:k<st.length):iI last (st.drop k)=(decide (st[k]<=last\/127<st[k])|| iI st[k] (st.drop (k+1))):=by exact UQ
theorem acy {st:List Int} {cs:List (Int×Int×Bool)} {k:Nat} (h:k<cs.length) :Eh st (cs.drop k)=if cs[k].2.1<0\/(st.length:Int)<cs[k].2.1 then 13 else if (cs[k].1<0\/127<cs[k].1)\/127<Au st cs[k]then 10 else Eh st (cs.drop (k+1)):=by rw [pX h];rfl
theorem wu:∀ {st:List Int} {last:Int},0<=last->iI last st=false->∀ k (h:k<st.length),1<=st[k]/\st[k]<=127:=by
 intro st;induction st with
 | nil=>simp| cons x r ih =>
  intro last h0 hb k h;unfold iI at hb;rw [Bool.or_eq_false_iff] at hb;have hx:=zi hb.1;cases k with
  | zero=>grind| succ k=>simp only [List.getElem_cons_succ];exact ih (by omega) hb.2 k yj
def Pn (w:World)(B:Nat)(A1 A2:Option Addr)(cs:List (Int×Int×Bool))(st:List Int):Prop:=Rd w B 3 A1 (cs.map mO)/\Rd w B 1 A2 (st.map nG)
end
end Go.Proofs.YthohlofpphjofaaGreatDoor
namespace Go.Proofs
open Go.Shelf
def Tryz.Wj:Go.Shelf.Ren:=⟨λ|137=>235|217=>251|266=>272|n=>n,λ|9=>9|5=>5|3=>3|n=>n,λ|n=>n⟩
theorem Tryz.lays137:Go.Proofs.Lays.n137 Tryz.prog Tryz.Wj:={
 mixed:=by kernel_rfl
 f137:=Tryz.func235.trans (congrArg some (by kernel_rfl))
 f217:=Tryz.func251.trans (congrArg some (by kernel_rfl))
 f266:=Tryz.func272.trans (congrArg some (by kernel_rfl))
 t3:=Tryz.underlying3
 a3:=Tryz.isAgg3
 z3:=Tryz.sizeOf3
 v3:=Tryz.zeroValue3
 t5:=Tryz.underlying5
 a5:=Tryz.isAgg5
 z5:=Tryz.sizeOf5
 v5:=Tryz.zeroValue5
 t9:=Tryz.underlying9
 a9:=Tryz.isAgg9
 z9:=Tryz.sizeOf9
 v9:=Tryz.zeroValue9 }
open Go.RowKit in
theorem Tryz.strings_IndexByte (s:ByteArray)(c:Int)(w:World) :
  Calls Tryz.prog 235 #[.string s,.int .u8 c] w fun e w'=>e=.returned (.int .i64 (Lib.indexByte s.data.toList c.toNat.toUInt8))∧w'=w:=Any.strings_IndexByte Tryz.lays137 s c w
def Tryz.ao2:Go.Shelf.Ren:=⟨λ|246=>231|283=>260|284=>261|285=>262|286=>263|129=>276|317=>275|318=>277|319=>278|320=>279|337=>290|338=>291|n=>n,λ|2=>2|3=>3|9=>9|4=>4|171=>348|0=>0|53=>349|37=>101|5=>5|173=>352|212=>371|51=>367|20=>20|213=>372|46=>346|232=>388|233=>389|n=>n,λ|17=>5|18=>6|19=>7|n=>n⟩
def Tryz.ao1:Go.Shelf.Ren:=⟨λ|243=>174|246=>231|283=>260|284=>261|285=>262|286=>263|129=>276|317=>275|318=>277|319=>278|320=>279|337=>290|338=>291|n=>n,λ|3=>3|9=>9|2=>2|4=>4|171=>348|0=>0|53=>349|37=>101|5=>5|173=>352|212=>371|51=>367|20=>20|213=>372|46=>346|232=>388|233=>389|n=>n,λ|17=>5|18=>6|19=>7|n=>n⟩
def Tryz.SX:Go.Shelf.Ren:=⟨λ|171=>108|243=>174|246=>231|283=>260|284=>261|285=>262|286=>263|129=>276|317=>275|318=>277|319=>278|320=>279|337=>290|338=>291|n=>n,λ|3=>3|9=>9|2=>2|4=>4|171=>348|0=>0|53=>349|37=>101|5=>5|173=>352|212=>371|51=>367|20=>20|213=>372|46=>346|232=>388|233=>389|n=>n,λ|17=>5|18=>6|19=>7|n=>n⟩
theorem Tryz.laysM171:Go.Proofs.LaysM.n171 Tryz.prog Tryz.SX:={
 mixed:=by kernel_rfl
 f129:=Tryz.func276.trans (congrArg some (by kernel_rfl))
 f171:=Tryz.func108.trans (congrArg some (by kernel_rfl))
 f243:=Tryz.func174.trans (congrArg some (by kernel_rfl))
 f246:=Tryz.func231.trans (congrArg some (by kernel_rfl))
 f283:=Tryz.func260.trans (congrArg some (by kernel_rfl))
 f284:=Tryz.func261.trans (congrArg some (by kernel_rfl))
 f285:=Tryz.func262.trans (congrArg some (by kernel_rfl))
 f286:=Tryz.func263.trans (congrArg some (by kernel_rfl))
 f317:=Tryz.func275.trans (congrArg some (by kernel_rfl))
 f318:=Tryz.func277.trans (congrArg some (by kernel_rfl))
 f319:=Tryz.func278.trans (congrArg some (by kernel_rfl))
 f320:=Tryz.func279.trans (congrArg some (by kernel_rfl))
 f337:=Tryz.func290.trans (congrArg some (by kernel_rfl))
 f338:=Tryz.func291.trans (congrArg some (by kernel_rfl))
 t0:=Tryz.underlying0
 a0:=Tryz.isAgg0
 z0:=Tryz.sizeOf0
 v0:=Tryz.zeroValue0
 t2:=Tryz.underlying2
 a2:=Tryz.isAgg2
 z2:=Tryz.sizeOf2
 v2:=Tryz.zeroValue2
 t3:=Tryz.underlying3
 a3:=Tryz.isAgg3
 z3:=Tryz.sizeOf3
 v3:=Tryz.zeroValue3
 t4:=Tryz.underlying4
 a4:=Tryz.isAgg4
 z4:=Tryz.sizeOf4
 v4:=Tryz.zeroValue4
 t5:=Tryz.underlying5
 a5:=Tryz.isAgg5
 z5:=Tryz.sizeOf5
 v5:=Tryz.zeroValue5
 t9:=Tryz.underlying9
 a9:=Tryz.isAgg9
 z9:=Tryz.sizeOf9
 v9:=Tryz.zeroValue9
 t20:=Tryz.underlying20
 a20:=Tryz.isAgg20
 z20:=Tryz.sizeOf20
 v20:=Tryz.zeroValue20
 t37:=Tryz.underlying101
 a37:=Tryz.isAgg101
 z37:=Tryz.sizeOf101
 v37:=Tryz.zeroValue101
 t46:=Tryz.underlying346
 a46:=Tryz.isAgg346
 z46:=Tryz.sizeOf346
 v46:=Tryz.zeroValue346
 t51:=Tryz.underlying367
 a51:=Tryz.isAgg367
 z51:=Tryz.sizeOf367
 v51:=Tryz.zeroValue367
 t53:=Tryz.underlying349
 a53:=Tryz.isAgg349
 z53:=Tryz.sizeOf349
 v53:=Tryz.zeroValue349
 t171:=Tryz.underlying348
 a171:=Tryz.isAgg348
 z171:=Tryz.sizeOf348
 v171:=Tryz.zeroValue348
 t173:=Tryz.underlying352
 a173:=Tryz.isAgg352
 z173:=Tryz.sizeOf352
 v173:=Tryz.zeroValue352
 t212:=Tryz.underlying371
 a212:=Tryz.isAgg371
 z212:=Tryz.sizeOf371
 v212:=Tryz.zeroValue371
 t213:=Tryz.underlying372
 a213:=Tryz.isAgg372
 z213:=Tryz.sizeOf372
 t232:=Tryz.underlying388
 a232:=Tryz.isAgg388
 z232:=Tryz.sizeOf388
 v232:=Tryz.zeroValue388
 t233:=Tryz.underlying389
 a233:=Tryz.isAgg389
 z233:=Tryz.sizeOf389
 v233:=Tryz.zeroValue389
 g17:=by kernel_rfl
 g18:=by kernel_rfl
 g19:=by kernel_rfl
 i0:=by kernel_rfl
 i2:=by kernel_rfl
 i3:=by kernel_rfl
 i4:=by kernel_rfl
 i5:=by kernel_rfl
 i9:=by kernel_rfl
 i20:=by kernel_rfl
 i37:=by kernel_rfl
 i46:=by kernel_rfl
 i51:=by kernel_rfl
 i53:=by kernel_rfl
 i171:=by kernel_rfl
 i173:=by kernel_rfl
 i212:=by kernel_rfl
 i232:=by kernel_rfl
 i233:=by kernel_rfl
 m17:=by kernel_rfl
 m18:=by kernel_rfl
 m19:=by kernel_rfl }
open Go.RowKit Go.Sort Go.Lib in
theorem Tryz.strconv_Itoa (n:Int) (h0:-9223372036854775808≤n) (h1:n≤9223372036854775807) (w:World) (htab:Lib.TabIs Tryz.prog w "internal/strconv.uint64pow10" .u64 Lib.pow10Tab) :
  Calls Tryz.prog 108 #[.int .i64 n] w fun e w'=>e=.returned (.string ⟨(Lib.itoa n).toArray⟩)∧∃ k os,w'=grow (w.drewN k) os:=Any.strconv_Itoa Tryz.laysM171 n h0 h1 w htab
def Tryz.Wp:Go.Shelf.Ren:=⟨λ|171=>108|243=>174|246=>231|283=>260|284=>261|285=>262|286=>263|129=>276|317=>275|318=>277|319=>278|320=>279|337=>290|338=>291|n=>n,λ|3=>3|9=>9|2=>2|4=>4|171=>348|0=>0|53=>349|37=>101|5=>5|173=>352|212=>371|51=>367|20=>20|213=>372|46=>346|232=>388|233=>389|n=>n,λ|17=>5|18=>6|19=>7|n=>n⟩
theorem Tryz.lays171:Go.Proofs.Lays.n171 Tryz.prog Tryz.Wp:={
 mixed:=by kernel_rfl
 f129:=Tryz.func276.trans (congrArg some (by kernel_rfl))
 f171:=Tryz.func108.trans (congrArg some (by kernel_rfl))
 f243:=Tryz.func174.trans (congrArg some (by kernel_rfl))
 f246:=Tryz.func231.trans (congrArg some (by kernel_rfl))
 f283:=Tryz.func260.trans (congrArg some (by kernel_rfl))
 f284:=Tryz.func261.trans (congrArg some (by kernel_rfl))
 f285:=Tryz.func262.trans (congrArg some (by kernel_rfl))
 f286:=Tryz.func263.trans (congrArg some (by kernel_rfl))
 f317:=Tryz.func275.trans (congrArg some (by kernel_rfl))
 f318:=Tryz.func277.trans (congrArg some (by kernel_rfl))
 f319:=Tryz.func278.trans (congrArg some (by kernel_rfl))
 f320:=Tryz.func279.trans (congrArg some (by kernel_rfl))
 f337:=Tryz.func290.trans (congrArg some (by kernel_rfl))
 f338:=Tryz.func291.trans (congrArg some (by kernel_rfl))
 t0:=Tryz.underlying0
 a0:=Tryz.isAgg0
 z0:=Tryz.sizeOf0
 v0:=Tryz.zeroValue0
 t2:=Tryz.underlying2
 a2:=Tryz.isAgg2
 z2:=Tryz.sizeOf2
 v2:=Tryz.zeroValue2
 t3:=Tryz.underlying3
 a3:=Tryz.isAgg3
 z3:=Tryz.sizeOf3
 v3:=Tryz.zeroValue3
 t4:=Tryz.underlying4
 a4:=Tryz.isAgg4
 z4:=Tryz.sizeOf4
 v4:=Tryz.zeroValue4
 t5:=Tryz.underlying5
 a5:=Tryz.isAgg5
 z5:=Tryz.sizeOf5
 v5:=Tryz.zeroValue5
 t9:=Tryz.underlying9
 a9:=Tryz.isAgg9
 z9:=Tryz.sizeOf9
 v9:=Tryz.zeroValue9
 t20:=Tryz.underlying20
 a20:=Tryz.isAgg20
 z20:=Tryz.sizeOf20
 v20:=Tryz.zeroValue20
 t37:=Tryz.underlying101
 a37:=Tryz.isAgg101
 z37:=Tryz.sizeOf101
 v37:=Tryz.zeroValue101
 t46:=Tryz.underlying346
 a46:=Tryz.isAgg346
 z46:=Tryz.sizeOf346
 v46:=Tryz.zeroValue346
 t51:=Tryz.underlying367
 a51:=Tryz.isAgg367
 z51:=Tryz.sizeOf367
 v51:=Tryz.zeroValue367
 t53:=Tryz.underlying349
 a53:=Tryz.isAgg349
 z53:=Tryz.sizeOf349
 v53:=Tryz.zeroValue349
 t171:=Tryz.underlying348
 a171:=Tryz.isAgg348
 z171:=Tryz.sizeOf348
 v171:=Tryz.zeroValue348
 t173:=Tryz.underlying352
 a173:=Tryz.isAgg352
 z173:=Tryz.sizeOf352
 v173:=Tryz.zeroValue352
 t212:=Tryz.underlying371
 a212:=Tryz.isAgg371
 z212:=Tryz.sizeOf371
 v212:=Tryz.zeroValue371
 t213:=Tryz.underlying372
 a213:=Tryz.isAgg372
 z213:=Tryz.sizeOf372
 t232:=Tryz.underlying388
 a232:=Tryz.isAgg388
 z232:=Tryz.sizeOf388
 v232:=Tryz.zeroValue388
 t233:=Tryz.underlying389
 a233:=Tryz.isAgg389
 z233:=Tryz.sizeOf389
 v233:=Tryz.zeroValue389
 g17:=by kernel_rfl
 g18:=by kernel_rfl
 g19:=by kernel_rfl }
open Go.RowKit Go.Sort Go.Lib in
theorem Tryz.strconv_Itoa_small (i:Nat) (hi:i<100) (w:World) :
  Calls Tryz.prog 108 #[.int .i64 i] w fun e w'=>e=.returned (.string ⟨(Lib.decDigits i).toArray⟩)∧w'=w:=Any.strconv_Itoa_small Tryz.lays171 i hi w
def Tryz.aqM:Go.Shelf.Ren:=⟨λ|219=>216|217=>251|225=>252|224=>253|267=>254|266=>272|314=>273|n=>n,λ|9=>9|3=>3|4=>4|5=>5|46=>346|146=>368|51=>367|n=>n,λ|1=>2|n=>n⟩
def Tryz.Wn:Go.Shelf.Ren:=⟨λ|145=>218|220=>255|219=>216|217=>251|225=>252|224=>253|267=>254|266=>272|314=>273|n=>n,λ|9=>9|4=>4|59=>312|3=>3|5=>5|46=>346|146=>368|51=>367|n=>n,λ|1=>2|n=>n⟩
theorem Tryz.lays145:Go.Proofs.Lays.n145 Tryz.prog Tryz.Wn:={
 mixed:=by kernel_rfl
 f145:=Tryz.func218.trans (congrArg some (by kernel_rfl))
 f217:=Tryz.func251.trans (congrArg some (by kernel_rfl))
 f219:=Tryz.func216.trans (congrArg some (by kernel_rfl))
 f220:=Tryz.func255.trans (congrArg some (by kernel_rfl))
 f224:=Tryz.func253.trans (congrArg some (by kernel_rfl))
 f225:=Tryz.func252.trans (congrArg some (by kernel_rfl))
 f266:=Tryz.func272.trans (congrArg some (by kernel_rfl))
 f267:=Tryz.func254.trans (congrArg some (by kernel_rfl))
 f314:=Tryz.func273.trans (congrArg some (by kernel_rfl))
 t3:=Tryz.underlying3
 a3:=Tryz.isAgg3
 z3:=Tryz.sizeOf3
 v3:=Tryz.zeroValue3
 t4:=Tryz.underlying4
 a4:=Tryz.isAgg4
 z4:=Tryz.sizeOf4
 v4:=Tryz.zeroValue4
 t5:=Tryz.underlying5
 a5:=Tryz.isAgg5
 z5:=Tryz.sizeOf5
 v5:=Tryz.zeroValue5
 t9:=Tryz.underlying9
 a9:=Tryz.isAgg9
 z9:=Tryz.sizeOf9
 v9:=Tryz.zeroValue9
 t46:=Tryz.underlying346
 a46:=Tryz.isAgg346
 z46:=Tryz.sizeOf346
 v46:=Tryz.zeroValue346
 t51:=Tryz.underlying367
 a51:=Tryz.isAgg367
 z51:=Tryz.sizeOf367
 v51:=Tryz.zeroValue367
 t59:=Tryz.underlying312
 a59:=Tryz.isAgg312
 z59:=Tryz.sizeOf312
 v59:=Tryz.zeroValue312
 t146:=Tryz.underlying368
 a146:=Tryz.isAgg368
 z146:=Tryz.sizeOf368
 v146:=Tryz.zeroValue368
 g1:=by kernel_rfl }
open Go.RowKit Go.Lib in
theorem Tryz.strings_Cut (s sep:ByteArray) (m:Int) (w:World) (hs:s.size<4294967281) (hm:w.cell? ⟨2,0,none⟩=some (.int .i64 m)) :
  Calls Tryz.prog 218 #[.string s,.string sep] w fun e w'=>e=.returned (.tuple #[.string ⟨(Lib.cut s.data.toList sep.data.toList).1.toArray⟩,.string ⟨(Lib.cut s.data.toList sep.data.toList).2.1.toArray⟩,.bool (Lib.cut s.data.toList sep.data.toList).2.2])∧∃ n,w'=w.drewN n:=Any.strings_Cut Tryz.lays145 s sep m w hs hm
def Tryz.Wq:Go.Shelf.Ren:=⟨λ|206=>217|n=>n,λ|9=>9|4=>4|3=>3|n=>n,λ|n=>n⟩
theorem Tryz.lays206:Go.Proofs.Lays.n206 Tryz.prog Tryz.Wq:={
 mixed:=by kernel_rfl
 f206:=Tryz.func217.trans (congrArg some (by kernel_rfl))
 t3:=Tryz.underlying3
 a3:=Tryz.isAgg3
 z3:=Tryz.sizeOf3
 v3:=Tryz.zeroValue3
 t4:=Tryz.underlying4
 a4:=Tryz.isAgg4
 z4:=Tryz.sizeOf4
 v4:=Tryz.zeroValue4
 t9:=Tryz.underlying9
 a9:=Tryz.isAgg9
 z9:=Tryz.sizeOf9
 v9:=Tryz.zeroValue9 }
open Go.RowKit Go.Lib in
theorem Tryz.stringslite_HasPrefix (s p:ByteArray)(w:World) :
  Calls Tryz.prog 217 #[.string s,.string p] w fun e w'=>e=.returned (.bool (Lib.hasPrefix s.data.toList p.data.toList))∧w'=w:=Any.stringslite_HasPrefix Tryz.lays206 s p w
def Tryz.lays99_ren:Go.Shelf.Ren:=⟨λ|99=>256|206=>217|n=>n,λ|9=>9|4=>4|3=>3|n=>n,λ|n=>n⟩
theorem Tryz.lays99:Go.Proofs.Lays.n99 Tryz.prog Tryz.lays99_ren:={
 mixed:=by kernel_rfl
 f99:=Tryz.func256.trans (congrArg some (by kernel_rfl))
 f206:=Tryz.func217.trans (congrArg some (by kernel_rfl))
 t3:=Tryz.underlying3
 a3:=Tryz.isAgg3
 z3:=Tryz.sizeOf3
 v3:=Tryz.zeroValue3
 t4:=Tryz.underlying4
 a4:=Tryz.isAgg4
 z4:=Tryz.sizeOf4
 v4:=Tryz.zeroValue4
 t9:=Tryz.underlying9
 a9:=Tryz.isAgg9
 z9:=Tryz.sizeOf9
 v9:=Tryz.zeroValue9 }
open Go.RowKit Go.Lib in
theorem Tryz.strings_HasPrefix (s p:ByteArray)(w:World) :
  Calls Tryz.prog 256 #[.string s,.string p] w fun e w'=>e=.returned (.bool (Lib.hasPrefix s.data.toList p.data.toList))∧w'=w:=Any.strings_HasPrefix Tryz.lays99 s p w
def Tryz.Ws:Go.Shelf.Ren:=⟨λ|207=>123|n=>n,λ|9=>9|4=>4|3=>3|n=>n,λ|n=>n⟩
theorem Tryz.lays207:Go.Proofs.Lays.n207 Tryz.prog Tryz.Ws:={
 mixed:=by kernel_rfl
 f207:=Tryz.func123.trans (congrArg some (by kernel_rfl))
 t3:=Tryz.underlying3
 a3:=Tryz.isAgg3
 z3:=Tryz.sizeOf3
 v3:=Tryz.zeroValue3
 t4:=Tryz.underlying4
 a4:=Tryz.isAgg4
 z4:=Tryz.sizeOf4
 v4:=Tryz.zeroValue4
 t9:=Tryz.underlying9
 a9:=Tryz.isAgg9
 z9:=Tryz.sizeOf9
 v9:=Tryz.zeroValue9 }
open Go.RowKit Go.Lib in
theorem Tryz.stringslite_HasSuffix (s p:ByteArray)(w:World)(hs:s.size≤9223372036854775807) :
  Calls Tryz.prog 123 #[.string s,.string p] w fun e w'=>e=.returned (.bool (Lib.hasSuffix s.data.toList p.data.toList))∧w'=w:=Any.stringslite_HasSuffix Tryz.lays207 s p w hs
def Tryz.aqN:Go.Shelf.Ren:=⟨λ|221=>88|268=>154|138=>155|143=>156|195=>213|197=>214|218=>215|219=>216|260=>250|217=>251|225=>252|224=>253|267=>254|266=>272|314=>273|n=>n,λ|9=>9|3=>3|31=>39|4=>4|0=>0|105=>309|21=>21|5=>5|46=>346|119=>363|139=>366|138=>365|146=>368|51=>367|n=>n,λ|1=>2|3=>3|4=>4|n=>n⟩
def Tryz.lays146_ren:Go.Shelf.Ren:=⟨λ|146=>38|221=>88|268=>154|138=>155|143=>156|195=>213|197=>214|218=>215|219=>216|260=>250|217=>251|225=>252|224=>253|267=>254|266=>272|314=>273|n=>n,λ|9=>9|31=>39|3=>3|4=>4|0=>0|105=>309|21=>21|5=>5|46=>346|119=>363|139=>366|138=>365|146=>368|51=>367|n=>n,λ|1=>2|3=>3|4=>4|n=>n⟩
theorem Tryz.lays146:Go.Proofs.Lays.n146 Tryz.prog Tryz.lays146_ren:={
 mixed:=by kernel_rfl
 f138:=Tryz.func155.trans (congrArg some (by kernel_rfl))
 f143:=Tryz.func156.trans (congrArg some (by kernel_rfl))
 f146:=Tryz.func38.trans (congrArg some (by kernel_rfl))
 f195:=Tryz.func213.trans (congrArg some (by kernel_rfl))
 f197:=Tryz.func214.trans (congrArg some (by kernel_rfl))
 f217:=Tryz.func251.trans (congrArg some (by kernel_rfl))
 f218:=Tryz.func215.trans (congrArg some (by kernel_rfl))
 f219:=Tryz.func216.trans (congrArg some (by kernel_rfl))
 f221:=Tryz.func88.trans (congrArg some (by kernel_rfl))
 f224:=Tryz.func253.trans (congrArg some (by kernel_rfl))
 f225:=Tryz.func252.trans (congrArg some (by kernel_rfl))
 f260:=Tryz.func250.trans (congrArg some (by kernel_rfl))
 f266:=Tryz.func272.trans (congrArg some (by kernel_rfl))
 f267:=Tryz.func254.trans (congrArg some (by kernel_rfl))
 f268:=Tryz.func154.trans (congrArg some (by kernel_rfl))
 f314:=Tryz.func273.trans (congrArg some (by kernel_rfl))
 t0:=Tryz.underlying0
 a0:=Tryz.isAgg0
 z0:=Tryz.sizeOf0
 v0:=Tryz.zeroValue0
 t3:=Tryz.underlying3
 a3:=Tryz.isAgg3
 z3:=Tryz.sizeOf3
 v3:=Tryz.zeroValue3
 t4:=Tryz.underlying4
 a4:=Tryz.isAgg4
 z4:=Tryz.sizeOf4
 v4:=Tryz.zeroValue4
 t5:=Tryz.underlying5
 a5:=Tryz.isAgg5
 z5:=Tryz.sizeOf5
 v5:=Tryz.zeroValue5
 t9:=Tryz.underlying9
 a9:=Tryz.isAgg9
 z9:=Tryz.sizeOf9
 v9:=Tryz.zeroValue9
 t21:=Tryz.underlying21
 a21:=Tryz.isAgg21
 z21:=Tryz.sizeOf21
 v21:=Tryz.zeroValue21
 t31:=Tryz.underlying39
 a31:=Tryz.isAgg39
 z31:=Tryz.sizeOf39
 v31:=Tryz.zeroValue39
 t46:=Tryz.underlying346
 a46:=Tryz.isAgg346
 z46:=Tryz.sizeOf346
 v46:=Tryz.zeroValue346
 t51:=Tryz.underlying367
 a51:=Tryz.isAgg367
 z51:=Tryz.sizeOf367
 v51:=Tryz.zeroValue367
 t105:=Tryz.underlying309
 a105:=Tryz.isAgg309
 z105:=Tryz.sizeOf309
 v105:=Tryz.zeroValue309
 t119:=Tryz.underlying363
 a119:=Tryz.isAgg363
 z119:=Tryz.sizeOf363
 t138:=Tryz.underlying365
 a138:=Tryz.isAgg365
 z138:=Tryz.sizeOf365
 v138:=Tryz.zeroValue365
 t139:=Tryz.underlying366
 a139:=Tryz.isAgg366
 z139:=Tryz.sizeOf366
 v139:=Tryz.zeroValue366
 t146:=Tryz.underlying368
 a146:=Tryz.isAgg368
 z146:=Tryz.sizeOf368
 v146:=Tryz.zeroValue368
 g1:=by kernel_rfl
 g3:=by kernel_rfl
 g4:=by kernel_rfl }
open Go.RowKit Go.Lib in
theorem Tryz.strings_Split (s sep:ByteArray) (m:Int) (w:World) (hs:s.size<4294967281) (hm:w.cell? ⟨2,0,none⟩=some (.int .i64 m)) (h1:1≤sep.size) :
  Calls Tryz.prog 38 #[.string s,.string sep] w fun e w' =>
   e=.returned (.slice (some ⟨w.heap.size,0,none⟩) (Lib.countB s sep+1) (Lib.countB s sep+1))∧w'=w.alloc (.cells ((Lib.splitB sep 0 (Lib.countB s sep) s).map Value.string).toArray 9):=Any.strings_Split Tryz.lays146 (by kernel_rfl) s sep m w hs hm h1
def Tryz.lays105_ren:Go.Shelf.Ren:=⟨λ|105=>323|212=>324|99=>256|165=>176|166=>53|170=>325|169=>55|263=>326|264=>327|206=>217|240=>109|241=>232|276=>175|277=>264|n=>n,λ|9=>9|3=>3|4=>4|20=>20|0=>0|46=>346|109=>407|5=>5|72=>103|76=>106|51=>367|146=>368|53=>349|148=>410|70=>100|37=>101|75=>105|127=>191|164=>263|80=>81|n=>n,λ|n=>n⟩
theorem Tryz.lays105:Go.Proofs.Lays.n105 Tryz.prog Tryz.lays105_ren:={
 mixed:=by kernel_rfl
 f99:=Tryz.func256.trans (congrArg some (by kernel_rfl))
 f105:=Tryz.func323.trans (congrArg some (by kernel_rfl))
 f165:=Tryz.func176.trans (congrArg some (by kernel_rfl))
 f166:=Tryz.func53.trans (congrArg some (by kernel_rfl))
 f169:=Tryz.func55.trans (congrArg some (by kernel_rfl))
 f170:=Tryz.func325.trans (congrArg some (by kernel_rfl))
 f206:=Tryz.func217.trans (congrArg some (by kernel_rfl))
 f212:=Tryz.func324.trans (congrArg some (by kernel_rfl))
 f240:=Tryz.func109.trans (congrArg some (by kernel_rfl))
 f241:=Tryz.func232.trans (congrArg some (by kernel_rfl))
 f263:=Tryz.func326.trans (congrArg some (by kernel_rfl))
 f264:=Tryz.func327.trans (congrArg some (by kernel_rfl))
 f276:=Tryz.func175.trans (congrArg some (by kernel_rfl))
 f277:=Tryz.func264.trans (congrArg some (by kernel_rfl))
 t0:=Tryz.underlying0
 a0:=Tryz.isAgg0
 z0:=Tryz.sizeOf0
 v0:=Tryz.zeroValue0
 t3:=Tryz.underlying3
 a3:=Tryz.isAgg3
 z3:=Tryz.sizeOf3
 v3:=Tryz.zeroValue3
 t4:=Tryz.underlying4
 a4:=Tryz.isAgg4
 z4:=Tryz.sizeOf4
 v4:=Tryz.zeroValue4
 t5:=Tryz.underlying5
 a5:=Tryz.isAgg5
 z5:=Tryz.sizeOf5
 v5:=Tryz.zeroValue5
 t9:=Tryz.underlying9
 a9:=Tryz.isAgg9
 z9:=Tryz.sizeOf9
 v9:=Tryz.zeroValue9
 t20:=Tryz.underlying20
 a20:=Tryz.isAgg20
 z20:=Tryz.sizeOf20
 v20:=Tryz.zeroValue20
 t37:=Tryz.underlying101
 a37:=Tryz.isAgg101
 z37:=Tryz.sizeOf101
 v37:=Tryz.zeroValue101
 t46:=Tryz.underlying346
 a46:=Tryz.isAgg346
 z46:=Tryz.sizeOf346
 v46:=Tryz.zeroValue346
 t51:=Tryz.underlying367
 a51:=Tryz.isAgg367
 z51:=Tryz.sizeOf367
 v51:=Tryz.zeroValue367
 t53:=Tryz.underlying349
 a53:=Tryz.isAgg349
 z53:=Tryz.sizeOf349
 v53:=Tryz.zeroValue349
 t70:=Tryz.underlying100
 a70:=Tryz.isAgg100
 z70:=Tryz.sizeOf100
 v70:=Tryz.zeroValue100
 t72:=Tryz.underlying103
 a72:=Tryz.isAgg103
 z72:=Tryz.sizeOf103
 v72:=Tryz.zeroValue103
 t75:=Tryz.underlying105
 a75:=Tryz.isAgg105
 z75:=Tryz.sizeOf105
 v75:=Tryz.zeroValue105
 t76:=Tryz.underlying106
 a76:=Tryz.isAgg106
 z76:=Tryz.sizeOf106
 v76:=Tryz.zeroValue106
 t109:=Tryz.underlying407
 a109:=Tryz.isAgg407
 z109:=Tryz.sizeOf407
 v109:=Tryz.zeroValue407
 t127:=Tryz.underlying191
 a127:=Tryz.isAgg191
 z127:=Tryz.sizeOf191
 v127:=Tryz.zeroValue191
 t146:=Tryz.underlying368
 a146:=Tryz.isAgg368
 z146:=Tryz.sizeOf368
 v146:=Tryz.zeroValue368
 t148:=Tryz.underlying410
 a148:=Tryz.isAgg410
 z148:=Tryz.sizeOf410
 v148:=Tryz.zeroValue410
 t164:=Tryz.underlying263
 a164:=Tryz.isAgg263
 z164:=Tryz.sizeOf263
 v164:=Tryz.zeroValue263 }
theorem Tryz.Builder_Extra_105:Builder.Extra Tryz.prog Tryz.lays105_ren:={
 sizeBuilder:=by kernel_rfl
 liesBuilder:=by kernel_rfl
 t5:=Tryz.underlying5
 a5:=Tryz.isAgg5
 z5:=Tryz.sizeOf5
 v5:=Tryz.zeroValue5
 infoByte:=by kernel_rfl
 cellsByte:=by kernel_rfl
 sizeByte:=by kernel_rfl
 neB5:=by decide }
open Go.RowKit Go.Lib in
theorem Tryz.strings_Repeat (s:ByteArray) (c:Nat) (w:World) (hc:c≤9223372036854775807) (hlen:s.size*c≤140737488355328) :
  Calls Tryz.prog 323 #[.string s,.int .i64 c] w fun e w'=>e=.returned (.string ⟨(Lib.repeatL s.data.toList c).toArray⟩)∧Below w.heap.size w w':=Any.strings_Repeat Tryz.lays105 Tryz.Builder_Extra_105 s c w hc hlen
end Go.Proofs
namespace Go.Proofs.YthohlofpphjofaaGreatDoor
section
open Go.RowKit
attribute [local go_sem]zQ dI jf je gq
attribute [local simp]tV jZ iK lG
def jy (u:Nat):List UInt8:=if u<10 then [UInt8.ofNat (48+u)]else [UInt8.ofNat (48+u/10),UInt8.ofNat (48+u % 10)]
theorem Kr (u:Nat)(h:u<100):Lib.decDigits u=jy u:=by
 unfold jy;by_cases h1:u<10;.rw [if_pos h1,Lib.decDigits,dif_pos h1]
 .rw [if_neg h1,Lib.decDigits,dif_neg h1,Lib.decDigits,dif_pos (by omega)];rfl
theorem Et (n:Int)(w:World)(h0:0<=n)(h1:n<100) :Calls Tryz.prog 108 #[.int .i64 n] w λe w'=>e=.returned (.string (bs (jy n.toNat)))/\w'=w:=by
 obtain⟨k,rfl⟩:=kQ h0;rw [gy,← Kr k (by omega)];exact Tryz.strconv_Itoa_small k au w
theorem MB (l:List UInt8) (c:Int) (w:World) (h0:0<=c) (h1:c<=100) (h2:l.length<=100) :Calls Tryz.prog 323 #[.string (bs l),.int .i64 c] w (iZ (.string (bs (Lib.repeatL l c.toNat))) w):=by
 obtain ⟨k,rfl⟩:=kQ h0;have hk:l.length*k<=100*100:=Uu h2 au;exact Tryz.strings_Repeat (bs l) k w (by omega) Rt
def frS (c f:Int):List UInt8 :=if 11<=c then jy (c-7).toNat else Lib.repeatL [47] (max (c-7) 0).toNat++cut [97,98,99,100,101,102,103,104,105,107,108,109,110,111,112,113,114,115,116] f (f+1)
def aeJ(c f:Int):Bool:=if 11<=c then f == 0 else true
theorem OQ (c f:Int) (w:World) (hc:11<=c) (hc':c<=14) (hf:0<=f) (hf':f<=18) :Calls Tryz.prog 321 #[.agg #[],.agg #[.int .i64 c,.int .i64 f]] w (iZ (.tuple #[.string (bs (frS c f)),.bool (aeJ c f)]) w):=by
 have e1:frS c f=jy (c - 7).toNat:=if_pos hc;have e2:aeJ c f=(f == 0):=if_pos hc;rw [e1,e2];go_enter Tryz.func321,Tryz.ntmps321;go_wp2;go_quiet ((go_at_call 108;exact Calls.quiet_of_same (Et _ _ au au)));go_wp2;go_ret2;exact iZ.mk' rfl CU
theorem KA (c f:Int) (w:World) (hc:1<=c) (hc':c<=10) (hf:0<=f) (hf':f<=18) :Calls Tryz.prog 321 #[.agg #[],.agg #[.int .i64 c,.int .i64 f]] w (iZ (.tuple #[.string (bs (frS c f)),.bool (aeJ c f)]) w):=by
 have e1:frS c f=Lib.repeatL [47] (max (c - 7) 0).toNat++cut [97,98,99,100,101,102,103,104,105,107,108,109,110,111,112,113,114,115,116] f (f+1):=if_neg au;have e2:aeJ c f=true:=if_neg au;have m0:0<=max (c - 7) 0:=by omega
 have m1:max (c - 7) 0<=100:=by omega
 have hsz:(Lib.repeatL [47] (max (c - 7) 0).toNat).length<=100:=by simp [Lib.repeatL_length];omega
 have g0:0<=f+1:=by omega
 have g1:f+1<=19:=by omega
 have g2:(Lib.repeatL [47] (max (c - 7) 0).toNat).length+(cut [97,98,99,100,101,102,103,104,105,107,108,109,110,111,112,113,114,115,116] f (f+1)).length<=9223372036854775807:=by
  have:=nJ [97,98,99,100,101,102,103,104,105,107,108,109,110,111,112,113,114,115,116] f (f+1);simp at this;omega
 have g3:f<=f+1:=by omega
 have aBQ:¬ 11<=c:=by omega
 have e7:IntKind.i64.wrap (c - 7)=c - 7:=IntWalk.i64_in _ au;have e8:IntKind.i64.wrap (f+1)=f+1:=IntWalk.i64_in _ au;rw [e1,e2];go_enter Tryz.func321,Tryz.ntmps321;go_wp2;go_region_held3 (λw'=>w'.cell? ⟨w.heap.size+1,0,none⟩=some (.int .i64 c)/\w'.cell? ⟨w.heap.size+1,1,none⟩=some (.int .i64 f))(first|(simp [bc];done)|go_keep)((go_at_call 323;refine (MB _ _ _ m0 m1 (by simp)).mono ?_;rintro e w' ⟨rfl,hb⟩;obtain ⟨bc,bf⟩:=Po hb));go_wp2;go_ret2;exact iZ.mk' rfl CU
theorem aeK (c f:Int)(w:World)(hc:1<=c/\c<=14)(hf:0<=f/\f<=18) :Calls Tryz.prog 321 #[.agg #[],.agg #[.int .i64 c,.int .i64 f]] w (iZ (.tuple #[.string (bs (frS c f)),.bool (aeJ c f)]) w):=by
 by_cases h:11<=c;.exact OQ c f w h hc.2 hf.1 hf.2
 .exact KA c f w hc.1 au hf.1 hf.2
def VF(f:Int):List UInt8:=if f<=9 then jy f.toNat else if f=10 then [120]else []
def Kw (f:Int):Bool:=decide (f<=10)
theorem Zf (f:Int) (w:World) (hf:0<=f/\f<=18) :Calls Tryz.prog 328 #[.agg #[],.int .i64 f] w (iZ (.tuple #[.string (bs (VF f)),.bool (Kw f)]) w):=by
 obtain ⟨h0,h1⟩:=hf;by_cases h9:f<=9
 .have e1:VF f=jy f.toNat:=if_pos h9;have e2:Kw f=true:=bQ au;rw [e1,e2];go_enter Tryz.func328,Tryz.ntmps328;exact am0
 .by_cases h10:f=10
  .subst h10;exact ang
  .have e1:VF f=[]:=by unfold VF;rw [if_neg h9,if_neg h10]
   have e2:Kw f=false:=bW au;have hb:(f == 10)=false:=by simp;exact h10
   rw [e1,e2];exact ang
def itS(c f:Int):List UInt8:=if c<=6 then VF f else if c=10 then [120]else jy c.toNat
def aoY(c f:Int):Bool:=if c<=6 then Kw f else f == 0
theorem ae3 (c f:Int) (w:World) (hc:1<=c/\c<=14) (hf:0<=f/\f<=18) :Calls Tryz.prog 336 #[.agg #[],.agg #[.int .i64 c,.int .i64 f]] w (iZ (.tuple #[.string (bs (itS c f)),.bool (aoY c f)]) w):=by
 obtain ⟨hc0,hc1⟩:=hc;have hp:∀ (w:World) (o:Obj),(partAt ⟨w.heap.size,0,none⟩ 0 0).run Tryz.prog ((w.alloc (.cells #[] 174)).alloc o)=.ok ⟨w.heap.size,0,none⟩ ((w.alloc (.cells #[] 174)).alloc o) :=λw o=>y9 _ _ _ _ (Ip w _ o) (by kernel_rfl);by_cases h6:c<=6
 .have e1:itS c f=VF f:=if_pos h6;have e2:aoY c f=Kw f:=if_pos h6;rw [e1,e2];go_enter Tryz.func336,Tryz.ntmps336;exact am2
 .have e2:aoY c f=(f == 0):=if_neg h6;by_cases h10:c=10
  .subst h10;rw [e2];go_enter Tryz.func336,Tryz.ntmps336;go_wp2;go_quiet (fail);go_wp2;exact vJ
  .have e1:itS c f=jy c.toNat:=by unfold itS;rw [if_neg h6,if_neg h10]
   have hb:(c == 10)=false:=by simp;exact h10
   rw [e1,e2];go_enter Tryz.func336,Tryz.ntmps336;go_wp2;go_quiet ((go_at_call 108;exact Calls.quiet_of_same (Et _ _ au au)));go_wp2;exact vJ
def spS(c f:Int):List UInt8:=if c<=6 then VF f else []
def ap9(c f:Int):Bool:=if c<=6 then Kw f else false
theorem agr (c f:Int) (w:World) (hf:0<=f/\f<=18) :Calls Tryz.prog 344 #[.agg #[],.agg #[.int .i64 c,.int .i64 f]] w (iZ (.tuple #[.string (bs (spS c f)),.bool (ap9 c f)]) w):=by
 have hp:∀ (w:World) (o:Obj),(partAt ⟨w.heap.size,0,none⟩ 0 0).run Tryz.prog ((w.alloc (.cells #[] 176)).alloc o)=.ok ⟨w.heap.size,0,none⟩ ((w.alloc (.cells #[] 176)).alloc o) :=λw o=>y9 _ _ _ _ (Ip w _ o) (by kernel_rfl);by_cases h6:c<=6
 .have e1:spS c f=VF f:=if_pos h6;have e2:ap9 c f=Kw f:=if_pos h6;have h6':¬ 6 < c:=by omega
  rw [e1,e2];go_enter Tryz.func344,Tryz.ntmps344;exact am2
 .have e1:spS c f=[]:=if_neg h6;have e2:ap9 c f=false:=if_neg h6;have h6':6 < c:=by omega
  rw [e1,e2];go_enter Tryz.func344,Tryz.ntmps344;go_wp2;exact vJ
def small:List UInt8:=[97,98,99,100,101,102,103,104,105,107,108,109,110,111,112,113,114,115,116,118,120,121,122,38,57]
def ahL(c f:Int):Int:=(f-1) % 5*5+5-c
def geS (c f:Int):List UInt8 :=if 6<c\/10<f then [] else if c=6 then (if f=0 then [43] else cut [65,66,67,68,69,70,71,72,73,75] (f-1) f)else if f=0 then jy (6-c).toNat else Lib.repeatL (cut small (ahL c f) (ahL c f+1)) ((f+4)/5).toNat
def aeM (c f:Int):Bool:=decide (c<=6/\f<=10)
theorem VO (c f:Int) (w:World) (hc:1<=c/\c<=5) (hf:1<=f/\f<=10) :Calls Tryz.prog 351 #[.agg #[],.agg #[.int .i64 c,.int .i64 f]] w (iZ (.tuple #[.string (bs (geS c f)),.bool (aeM c f)]) w):=by
 obtain ⟨hc0,hc1⟩:=hc;obtain ⟨hf0,hf1⟩:=hf;have e1:geS c f=Lib.repeatL (cut small (ahL c f) (ahL c f+1)) ((f+4)/5).toNat:=by unfold geS;rw [if_neg (by omega),if_neg (by omega),if_neg (by omega)]
 have e2:aeM c f=true:=bQ au;rw [e1,e2];unfold ahL small;have hb1:(c == 6)=false:=by simp;omega
 have hb2:(f == 0)=false:=by simp;omega
 have g0:0<=(f - 1) % 5*5+5 - c:=by omega
 have g0':c<=(f - 1) % 5*5+5:=by omega
 have g2':(f - 1) % 5*5+5 - c<=24:=by omega
 have g1:(f - 1) % 5*5+5 - c<=(f - 1) % 5*5+5 - c+1:=by omega
 have g2:(f - 1) % 5*5+5 - c+1<=25:=by omega
 have g3:0<=f+4:=by omega
 have q0:0<=(f+4)/5:=by omega
 have q1:(f+4)/5<=100:=by omega
 have ql:=nJ [97,98,99,100,101,102,103,104,105,107,108,109,110,111,112,113,114,115,116,118,120,121,122,38,57] ((f - 1) % 5*5+5 - c) ((f - 1) % 5*5+5 - c+1);have ql':(cut [97,98,99,100,101,102,103,104,105,107,108,109,110,111,112,113,114,115,116,118,120,121,122,38,57] ((f - 1) % 5*5+5 - c) ((f - 1) % 5*5+5 - c+1)).length<=100:=gX ql (by decide);clear ql;have w1:IntKind.i64.wrap ((f - 1) % 5*5+5 - c+1)=(f - 1) % 5*5+5 - c+1:=IntWalk.i64_in _ au;have w2:IntKind.i64.wrap (f+4)=f+4:=IntWalk.i64_in _ au;have w3:IntKind.i64.wrap ((f+4).tdiv 5)=(f+4)/5:=by rw [Int.tdiv_eq_ediv_of_nonneg (by omega)];exact IntWalk.i64_in _ (by omega)
 go_enter Tryz.func351,Tryz.ntmps351;go_wp2;go_region_held3 (λw'=>w'.cell? ⟨w.heap.size+1,0,none⟩=some (.int .i64 c)/\w'.cell? ⟨w.heap.size+1,1,none⟩=some (.int .i64 f))(first|(simp [bc];done)|go_keep)((go_at_call 323;refine (MB _ _ _ q0 q1 ql').mono ?_;rintro e w' ⟨rfl,hb⟩;obtain ⟨bc,bf⟩:=Po hb));go_wp2;go_ret2;exact iZ.mk' rfl CU
theorem aeN (c f:Int) (w:World) (hc:1<=c/\c<=14) (hf:0<=f/\f<=18) :Calls Tryz.prog 351 #[.agg #[],.agg #[.int .i64 c,.int .i64 f]] w (iZ (.tuple #[.string (bs (geS c f)),.bool (aeM c f)]) w):=by
 obtain ⟨hc0,hc1⟩:=hc;obtain ⟨hf0,hf1⟩:=hf;by_cases hbad:6 < c\/10 < f
 .have e1:geS c f=[]:=if_pos hbad;have e2:aeM c f=false:=bW au;rw [e1,e2];by_cases h6:6 < c;.exact U3
  .have h10:10 < f:=by omega
   exact U3
 .have e2:aeM c f=true:=bQ au;have k1:¬ 6 < c:=by omega
  have k2:¬ 10 < f:=by omega
  by_cases h6:c=6
  .subst h6;by_cases h0:f=0
   .subst h0;rw [e2];exact U3
   .have e1:geS 6 f=cut [65,66,67,68,69,70,71,72,73,75] (f - 1) f:=by unfold geS;rw [if_neg hbad,if_pos rfl,if_neg h0]
    have hb2:(f == 0)=false:=by simp;omega
    have g0:0<=f - 1:=by omega
    have g0':1<=f:=by omega
    have g1:f - 1<=f:=by omega
    have g2:f<=10:=by omega
    rw [e1,e2];exact U3
  .have hb1:(c == 6)=false:=by simp;omega
   by_cases h0:f=0
   .subst h0;have e1:geS c 0=jy (6 - c).toNat:=by unfold geS;rw [if_neg hbad,if_neg h6,if_pos rfl]
    rw [e1,e2];go_enter Tryz.func351,Tryz.ntmps351;exact am0
   .exact VO c f w ⟨hc0,by omega⟩ ⟨by omega,by omega⟩
end
section
open Go.RowKit
attribute [local go_sem]zQ dI jf je gq
attribute [local simp]tV jZ iK lG
theorem ae5 (n:Int) (w:World):Calls Tryz.prog 76 #[.int .u8 n] w λe w'=>e=.returned (.bool (decide (1<=n/\n<=4)))/\w'=w:=by
 by_cases h:1<=n/\n<=4
 .rw [bQ h];obtain ⟨h1,h4⟩:=h;exact ace
 .rw [bW h];by_cases h1:1<=n
  .have h4:¬ n<=4:=λh4=>h ⟨h1,h4⟩;clear h;exact ace
  .clear h;exact ace
def lX:List UInt8:=[97,98,99,100,101,102,103,104,105,107,108,109,110,111,112,113,114,115,116]
theorem zG (f:Int)(w:World)(h0:0<=f)(h1:f<=18) :Calls Tryz.prog 245 #[.int .i64 f] w λe w'=>e=.returned (.string (bs (cut lX f (f+1))))/\w'=w:=by
 have g1:f<=f+1:=by omega
 have g2:f+1<=19:=by omega
 have g3:0<=f+1:=by omega
 unfold lX;go_enter Tryz.func245,Tryz.ntmps245;go_wp2;go_ret;exact⟨rfl,rfl⟩
def yB:List UInt8:=[48,49,50,51,52,53,54,55,56,57,120]
theorem XM (f:Int)(w:World)(h0:0<=f)(h1:f<=10) :Calls Tryz.prog 246 #[.int .i64 f] w λe w'=>e=.returned (.string (bs (cut yB f (f+1))))/\w'=w:=by
 have g1:f<=f+1:=by omega
 have g2:f+1<=11:=by omega
 have g3:0<=f+1:=by omega
 unfold yB;go_enter Tryz.func246,Tryz.ntmps246;go_wp2;go_ret;exact⟨rfl,rfl⟩
def Ai:List UInt8:=[97,98,99,100,101,102,103,104,105,107,108,109,110,111,112,113,114,115,116,118,120,121,122,38,57]
def rge (c f:Int):List UInt8 :=if c=6 then cut [43,65,66,67,68,69,70,71,72,73,75] f (f+1)else if f=0 then cut [49,50,51,52,53] (5-c) (6-c)else if 5<f then cut Ai (5*((f-1) % 5)+5-c) (5*((f-1) % 5)+6-c)++cut Ai (5*((f-1) % 5)+5-c) (5*((f-1) % 5)+6-c)else cut Ai (5*((f-1) % 5)+5-c) (5*((f-1) % 5)+6-c)
theorem XR (c f:Int) (w:World) (hc:1<=c/\c<=6) (hf:0<=f/\f<=10) :Calls Tryz.prog 247 #[.int .i64 c,.int .i64 f] w λe w'=>e=.returned (.string (bs (rge c f)))/\w'=w:=by
 obtain ⟨hc0,hc1⟩:=hc;obtain ⟨hf0,hf1⟩:=hf;have g1:f<=f+1:=by omega
 have g2:f+1<=11:=by omega
 have g3:0<=f+1:=by omega
 by_cases h6:c=6
 .subst h6;exact U4
 .have hb1:(c == 6)=false:=by simp;exact h6
  by_cases h0:f=0
  .subst h0;have k1:0<=5-c:=by omega
   have k1':c<=5:=by omega
   have k2:5-c<=6-c:=by omega
   have k3:6-c<=5:=by omega
   have e1:rge c 0=cut [49,50,51,52,53] (5-c) (6-c):=by unfold rge;rw [if_neg h6,if_pos rfl]
   rw [e1];exact U4
  .have hb2:(f == 0)=false:=by simp;exact h0
   have k0:0<=5*((f-1) % 5)+5-c:=by omega
   have k0':c<=5*((f-1) % 5)+5:=by omega
   have k1:5*((f-1) % 5)+5-c<=5*((f-1) % 5)+6-c:=by omega
   have k2:5*((f-1) % 5)+6-c<=25:=by omega
   have kl:=nJ [97,98,99,100,101,102,103,104,105,107,108,109,110,111,112,113,114,115,116,118,120,121,122,38,57] (5*((f-1) % 5)+5-c) (5*((f-1) % 5)+6-c);have kl':(cut [97,98,99,100,101,102,103,104,105,107,108,109,110,111,112,113,114,115,116,118,120,121,122,38,57] (5*((f-1) % 5)+5-c) (5*((f-1) % 5)+6-c)).length+(cut [97,98,99,100,101,102,103,104,105,107,108,109,110,111,112,113,114,115,116,118,120,121,122,38,57] (5*((f-1) % 5)+5-c) (5*((f-1) % 5)+6-c)).length<=9223372036854775807:=by
    have:([97,98,99,100,101,102,103,104,105,107,108,109,110,111,112,113,114,115,116,118,120,121,122,38,57]:List UInt8).length=25:=rfl;omega
   clear kl;by_cases h5:5<f
   .have e1:rge c f=cut Ai (5*((f-1) % 5)+5-c) (5*((f-1) % 5)+6-c)++cut Ai (5*((f-1) % 5)+5-c) (5*((f-1) % 5)+6-c):=by unfold rge;rw [if_neg h6,if_neg h0,if_pos h5]
    rw [e1];unfold Ai;exact U4
   .have e1:rge c f=cut Ai (5*((f-1) % 5)+5-c) (5*((f-1) % 5)+6-c):=by unfold rge;rw [if_neg h6,if_neg h0,if_neg h5]
    rw [e1];unfold Ai;exact U4
def acP (c:Int):List UInt8:=[[55],[56],[57],[120],[49,49],[49,50],[49,51],[49,52]].getD (c-7).toNat []
def rS (s c f:Int):List UInt8 :=if s=1 then(if c<=7 then cut lX f (f+1) else if c<=10 then cut [47,47,47] 0 (c-7)++cut lX f (f+1) else if f=0 then cut [52,53,54,55] (c-11) (c-10) else [])else if s=4 then (if c<=6/\f<=10 then rge c f else [])else if c<=6/\f<=10 then cut yB f (f+1) else if s=2/\6<c/\f=0 then acP c else []
theorem agb (c f:Int) (w:World) (hc:1<=c/\c<=14) (hf:0<=f/\f<=18) :Calls Tryz.prog 201 #[.int .u8 1,.int .i64 c,.int .i64 f] w (iZ (.string (bs (rS 1 c f))) w):=by
 obtain ⟨hc0,hc1⟩:=hc;obtain ⟨hf0,hf1⟩:=hf;by_cases h7:c<=7
 .have e1:rS 1 c f=cut lX f (f+1):=by unfold rS;rw [if_pos rfl,if_pos h7]
  rw [e1];go_enter Tryz.func201,Tryz.ntmps201;go_wp2_with (go_at_call 245;refine (zG _ _ hf0 hf1).mono ?_;rintro e w' ⟨rfl,rfl⟩);go_ret;exact iZ.mk' rfl CU
 .by_cases h10:c<=10
  .have e1:rS 1 c f=cut [47,47,47] 0 (c - 7)++cut lX f (f+1):=by unfold rS;rw [if_pos rfl,if_neg h7,if_pos h10]
   rw [e1];have g0:0<=c - 7:=by omega
   have g0':7<=c:=by omega
   have g1:c - 7<=3:=by omega
   have gl:(cut [47,47,47] 0 (c - 7)).length+(cut lX f (f+1)).length<=9223372036854775807:=by
    have a:=nJ [47,47,47] 0 (c - 7);have b:=nJ lX f (f+1);have a':([47,47,47]:List UInt8).length=3:=rfl;have b':lX.length=19:=rfl;omega
   have w1:IntKind.i64.wrap (c - 7)=c - 7:=IntWalk.i64_in _ au;go_enter Tryz.func201,Tryz.ntmps201;go_wp2_with fail;go_quiet ((go_at_call 245;exact Calls.quiet_of_same (zG _ _ hf0 hf1)));go_wp2_with fail;go_ret;exact iZ.mk' rfl CU
  .by_cases h0:f=0
   .subst h0;have e1:rS 1 c 0=cut [52,53,54,55] (c - 11) (c - 10):=by unfold rS;rw [if_pos rfl,if_neg h7,if_neg h10,if_pos rfl]
    have g0:0<=c - 11:=by omega
    have g0':11<=c:=by omega
    have g1:c - 11<=c - 10:=by omega
    have g2:c - 10<=4:=by omega
    rw [e1];exact OC
   .have e1:rS 1 c f=[]:=by unfold rS;rw [if_pos rfl,if_neg h7,if_neg h10,if_neg h0]
    exact anb
theorem agc (c f:Int) (w:World) (hc:1<=c/\c<=14) (hf:0<=f/\f<=18) :Calls Tryz.prog 201 #[.int .u8 4,.int .i64 c,.int .i64 f] w (iZ (.string (bs (rS 4 c f))) w):=by
 obtain ⟨hc0,hc1⟩:=hc;obtain ⟨hf0,hf1⟩:=hf;by_cases h6:c<=6
 .by_cases h10:f<=10
  .have e1:rS 4 c f=rge c f:=by unfold rS;rw [if_neg (by decide),if_pos rfl,if_pos ⟨h6,h10⟩]
   rw [e1];go_enter Tryz.func201,Tryz.ntmps201;go_wp2_with (go_at_call 247;refine (XR _ _ _ ⟨hc0,h6⟩ ⟨hf0,h10⟩).mono ?_;rintro e w' ⟨rfl,rfl⟩);go_ret;exact iZ.mk' rfl CU
  .have e1:rS 4 c f=[]:=by unfold rS;rw [if_neg (by decide),if_pos rfl,if_neg (λh=>h10 h.2)]
   rw [e1];exact OC
 .have e1:rS 4 c f=[]:=by unfold rS;rw [if_neg (by decide),if_pos rfl,if_neg (λh=>h6 h.1)]
  rw [e1];exact OC
theorem Jb (s c f:Int) (w:World) (hs:s=2\/s=3) (hc:1<=c/\c<=14) (hf:0<=f/\f<=18) (h6:c<=6) (h10:f<=10) :Calls Tryz.prog 201 #[.int .u8 s,.int .i64 c,.int .i64 f] w (iZ (.string (bs (rS s c f))) w):=by
 obtain ⟨hc0,hc1⟩:=hc;obtain ⟨hf0,hf1⟩:=hf;have e1:rS s c f=cut yB f (f+1):=by unfold rS;rw [if_neg (by omega),if_neg (by omega),if_pos ⟨h6,h10⟩]
 rw [e1];rcases hs with rfl|rfl;all_goals
  clear e1;go_enter Tryz.func201,Tryz.ntmps201;go_wp2_with (go_at_call 246;refine (XM _ _ hf0 h10).mono ?_;rintro e w' ⟨rfl,rfl⟩);go_ret;exact iZ.mk' rfl CU
theorem aaW (c f:Int) (w:World) (h:¬ (c<=6/\f<=10)) :Calls Tryz.prog 201 #[.int .u8 3,.int .i64 c,.int .i64 f] w (iZ (.string (bs (rS 3 c f))) w):=by
 have e1:rS 3 c f=[]:=by unfold rS;rw [if_neg (by decide),if_neg (by decide),if_neg h,if_neg (by simp)]
 rw [e1];by_cases h6:c<=6
 .have h10:¬ f<=10:=λk=>h ⟨h6,k⟩;clear h;exact OC
 .clear h;exact OC
theorem aaV (c f:Int) (w:World) (hc:1<=c/\c<=14) (h:¬ (c<=6/\f<=10)) :Calls Tryz.prog 201 #[.int .u8 2,.int .i64 c,.int .i64 f] w (iZ (.string (bs (rS 2 c f))) w):=by
 obtain ⟨hc0,hc1⟩:=hc;by_cases h6:c<=6
 .have e1:rS 2 c f=[]:=by unfold rS;rw [if_neg (by decide),if_neg (by decide),if_neg h,if_neg (by omega)]
  have h10:¬ f<=10:=λk=>h ⟨h6,k⟩;rw [e1];clear h;exact OC
 .clear h;have h6':6 < c:=by omega
  by_cases h0:f=0
  .subst h0;have e1:rS 2 c 0=acP c:=by unfold rS;rw [if_neg (by decide),if_neg (by decide),if_neg (by omega),if_pos (by omega)]
   rw [e1];have:c=7\/c=8\/c=9\/c=10\/c=11\/c=12\/c=13\/c=14:=by omega
   rcases this with rfl|rfl|rfl|rfl|rfl|rfl|rfl|rfl;all_goals
    clear e1;go_enter Tryz.func201,Tryz.ntmps201;go_wp2_with fail;go_ret;exact iZ.mk' rfl CU
  .have e1:rS 2 c f=[]:=by unfold rS;rw [if_neg (by decide),if_neg (by decide),if_neg (by omega),if_neg (by omega)]
   exact anb
theorem Ja (s c f:Int)(w:World)(hs:1<=s/\s<=4)(hc:1<=c/\c<=14)(hf:0<=f/\f<=18) :Calls Tryz.prog 201 #[.int .u8 s,.int .i64 c,.int .i64 f] w (iZ (.string (bs (rS s c f))) w):=by
 have:s=1\/s=2\/s=3\/s=4:=by omega
 rcases this with rfl|rfl|rfl|rfl;.exact agb c f w hc hf
 .by_cases h:c<=6/\f<=10;.exact Jb 2 c f w (.inl rfl) hc hf h.1 h.2
  .exact aaV c f w hc h
 .by_cases h:c<=6/\f<=10;.exact Jb 3 c f w (.inr rfl) hc hf h.1 h.2
  .exact aaW c f w h
 .exact agc c f w hc hf
end
section
open Go.RowKit
def iE (c:UInt8)(s:List (List UInt8)×List UInt8)(b:UInt8):List (List UInt8)×List UInt8:=if b=c then (s.1++[s.2],[])else (s.1,s.2++[b])
def aH (c:UInt8) (t:List UInt8):List (List UInt8)×List UInt8:=t.foldl (iE c) ([],[])
def aC (c:UInt8)(ls:List (List UInt8))(tl:List UInt8):List UInt8:=ls.flatMap (λl=>l++[c])++tl
def bZ(c:UInt8)(l:List UInt8):Prop:=∀ b∈l,b≠c
theorem yN(c:UInt8)(tl:List UInt8):aC c [] tl=tl:=rfl
theorem iL (c:UInt8)(l:List UInt8)(ls:List (List UInt8))(tl:List UInt8):aC c (l::ls) tl=l++c::aC c ls tl:=by simp[aC]
theorem yO (c:UInt8):∀ (t:List UInt8) (ls:List (List UInt8)) (cur:List UInt8),aC c (t.foldl (iE c) (ls,cur)).1 (t.foldl (iE c) (ls,cur)).2=aC c ls cur++t
 | [],ls,cur=>by simp| b::r,ls,cur=>by
  by_cases h:b=c
  .rw [AU,show iE c (ls,cur) b=(ls++[cur],[]) from if_pos h,yO c r];simp [aC,h]
  .rw [AU,show iE c (ls,cur) b=(ls,cur++[b]) from if_neg h,yO c r];simp [aC]
theorem MP (c:UInt8):∀ (t:List UInt8) (ls:List (List UInt8)) (cur:List UInt8),(∀ l∈ls,bZ c l)->bZ c cur->(∀ l∈(t.foldl (iE c) (ls,cur)).1,bZ c l)/\bZ c (t.foldl (iE c) (ls,cur)).2
 | [],ls,cur,h1,h2=>⟨h1,h2⟩| b::r,ls,cur,h1,h2=>by
  by_cases h:b=c
  .rw [AU,show iE c (ls,cur) b=(ls++[cur],[]) from if_pos h];exact MP c r _ _ (λl hl=>by grind) (λb hb=>by cases hb)
  .rw [AU,show iE c (ls,cur) b=(ls,cur++[b]) from if_neg h];exact MP c r _ _ h1 (λx hx=>by
    rcases List.mem_append.1 hx with y|y;.exact h2 x y
    simp_all)
theorem Hr (c:UInt8):∀ (l:List UInt8) (ls:List (List UInt8)) (cur:List UInt8),bZ c l->l.foldl (iE c) (ls,cur)=(ls,cur++l)
 | [],ls,cur,_=>by simp| b::r,ls,cur,h=>by
  rw [AU,show iE c (ls,cur) b=(ls,cur++[b]) from if_neg (h b (by simp)),Hr c r _ _ (λx hx=>h x (by grind))];simp
theorem MQ (c:UInt8):∀ (ls:List (List UInt8)) (tl:List UInt8) (a:List (List UInt8)),(∀ l∈ls,bZ c l)->bZ c tl->(aC c ls tl).foldl (iE c) (a,[])=(a++ls,tl)
 | [],tl,a,_,h=>by simp_all[yN,Hr]| l::ls,tl,a,h1,h2=>by
  rw [iL,QV,Hr c l _ _ (h1 l (by simp)),AU,Un,show iE c (a,l) c=(a++[l],[]) from if_pos rfl,MQ c ls tl _ (λx hx=>h1 x (by grind)) h2];simp
theorem lF (c:UInt8)(t:List UInt8):aC c (aH c t).1 (aH c t).2=t:=(yO c t [] []).trans rfl
theorem BH (c:UInt8) (t:List UInt8):(∀ l∈(aH c t).1,bZ c l)/\bZ c (aH c t).2:=MP c t [] [] (λl hl=>by cases hl) (λb hb=>by cases hb)
theorem I9 {c:UInt8} {ls:List (List UInt8)} {tl:List UInt8} (h1:∀ l∈ls,bZ c l)(h2:bZ c tl):aH c (aC c ls tl)=(ls,tl):=by simp_all[aH,MQ]
theorem uX (c:UInt8)(r:List UInt8):∀ l:List UInt8,bZ c l->Lib.index (l++c::r) [c]=(l.length:Int)
 | [],_=>by simp[Lib.index]| b::l,h=>by
  have ih:=uX c r l (λx hx=>h x (by grind));have hb:([c]:List UInt8).isPrefixOf (b::(l++c::r))=false:=by simp [List.isPrefixOf,Ne.symm (h b (by simp))]
  simp_all[Lib.index]
theorem Cm (c:UInt8):∀ l:List UInt8,bZ c l->Lib.index l [c]=-1
 | [],_=>by simp[Lib.index]| b::l,h=>by
  have ih:=Cm c l (λx hx=>h x (by grind));have hb:([c]:List UInt8).isPrefixOf (b::l)=false:=by simp [List.isPrefixOf,Ne.symm (h b (by simp))]
  simp_all[Lib.index]
theorem af9 {c:UInt8} {l r:List UInt8} (h:bZ c l):Lib.cut (l++c::r) [c]=(l,r,true):=by simp_all[uX,Lib.cut]
theorem aga {c:UInt8} {l:List UInt8} (h:bZ c l):Lib.cut l [c]=(l,[],false):=by simp_all[Cm,Lib.cut]
theorem I7 {c:UInt8} {l:List UInt8} (h:bZ c l):Lib.count l [c]=0:=by
 rw [Lib.count_one,List.count_eq_zero];exact λhc=>h c hc rfl
theorem wU (c:UInt8):∀ (ls:List (List UInt8))(tl:List UInt8),(∀ l∈ls,bZ c l)->bZ c tl->Lib.count (aC c ls tl) [c]=ls.length
 | [],tl,_,h=>by simp_all[yN,I7]| l::ls,tl,h1,h2=>by
  have ih:=wU c ls tl (λx hx=>h1 x (by grind)) h2;have h0:=I7 (h1 l (by simp));simp_all[Lib.count_one,iL]
theorem Ah (c:UInt8):∀ (ls:List (List UInt8))(tl:List UInt8),(∀ l∈ls,bZ c l)->bZ c tl->Lib.splitK [c] 0 ls.length (aC c ls tl)=ls++[tl]
 | [],tl,_,_=>rfl| l::ls,tl,h1,h2=>by
  have hi:=uX c (aC c ls tl) l (h1 l (by simp));rw [iL,pW,Lib.splitK,hi,if_neg (by simp),gy];have e1:(l++c::aC c ls tl).take (l.length+0)=l:=List.take_left;have e2:(l++c::aC c ls tl).drop (l.length+[c].length)=aC c ls tl:=by rw [show l++c::aC c ls tl=(l++[c])++aC c ls tl by simp,show l.length+[c].length=(l++[c]).length by simp];exact Yv
  rw [e1,e2,Ah c ls tl (λx hx=>h1 x (by simp [hx])) h2];rfl
def aZ (c:UInt8)(t:List UInt8):List (List UInt8):=(aH c t).1++[(aH c t).2]
theorem TW (c:UInt8)(t:List UInt8):Lib.splitK [c] 0 (Lib.count t [c]) t=aZ c t:=by grind[BH,lF,aZ,Ah,wU]
theorem yQ(c:UInt8)(t:List UInt8):(aZ c t).length=Lib.count t [c]+1:=by grind[BH,wU,lF,aZ]
theorem XZ (c:UInt8) (l r:List UInt8) (h:bZ c l):aZ c (l++c::r)=l::aZ c r:=by
 obtain ⟨h1,h2⟩:=BH c r;have hj:=lF c r;have e:l++c::r=aC c (l::(aH c r).1) (aH c r).2:=by rw [iL,hj]
 simp_all[aZ,I9]
theorem aaU (c:UInt8) (l:List UInt8) (h:bZ c l):aZ c l=[l]:=by
 have:=I9 (ls:=[]) (λx hx=>by cases hx) h;simp_all[aZ,yN]
theorem jk (c:UInt8) (t:List UInt8):∀ w∈aZ c t,w.length<=t.length:=by
 intro w hw;have hj:=lF c t;unfold aZ at hw;have hl:t.length=(aC c (aH c t).1 (aH c t).2).length:=by rw [hj]
 rw [hl];unfold aC;rcases List.mem_append.1 hw with x|x
 .obtain ⟨i,hi,rfl⟩:=List.mem_iff_getElem.1 x;rw [dS];have:((aH c t).1[i]++[c]).length<=((aH c t).1.flatMap λl=>l++[c]).length:=by
   have:=List.sublist_flatten_of_mem (List.mem_map.2 ⟨_,gB hi,rfl⟩:(aH c t).1[i]++[c]∈(aH c t).1.map λl=>l++[c]);grind
  grind
 simp_all
def tK (n:Nat):List UInt8->Option Nat
 | []=>some n| b::r=>if 48<=b.toNat/\b.toNat<=57 then tK (10*n+(b.toNat-48)) r else none
def bU(w:List UInt8):Option Nat:=if w.length<1\/3<w.length\/(w.getD 0 0=48/\1<w.length)then none else tK 0 w
def TU (n:Nat):List UInt8:=if n<10 then [UInt8.ofNat (48+n)]else if n<100 then [UInt8.ofNat (48+n/10),UInt8.ofNat (48+n % 10)]else [UInt8.ofNat (48+n/100),UInt8.ofNat (48+n/10 % 10),UInt8.ofNat (48+n % 10)]
theorem aaT {n:Nat} (h:n<1000):Lib.itoa (n:Int)=TU n:=by
 unfold Lib.itoa;rw [if_neg (by omega),gy];grind[TU,Lib.decDigits]
end
section
open Go.Shelf Go.RowKit
def acQ:Go.Shelf.Ren:=⟨λ|156=>111|165=>176|166=>53|169=>55|240=>109|241=>232|276=>175|277=>264|n=>n,λ|0=>0|3=>3|4=>4|9=>9|20=>20|31=>39|37=>101|70=>100|72=>103|75=>105|76=>106|127=>191|164=>263|5=>5|80=>81|n=>n,λ|n=>n⟩
theorem V7:Go.Proofs.Lays.n156 Tryz.prog acQ:={
 mixed:=by kernel_rfl
 f156:=Tryz.func111.trans (congrArg some (by kernel_rfl))
 f165:=Tryz.func176.trans (congrArg some (by kernel_rfl))
 f166:=Tryz.func53.trans (congrArg some (by kernel_rfl))
 f169:=Tryz.func55.trans (congrArg some (by kernel_rfl))
 f240:=Tryz.func109.trans (congrArg some (by kernel_rfl))
 f241:=Tryz.func232.trans (congrArg some (by kernel_rfl))
 f276:=Tryz.func175.trans (congrArg some (by kernel_rfl))
 f277:=Tryz.func264.trans (congrArg some (by kernel_rfl))
 t0:=Tryz.underlying0
 a0:=Tryz.isAgg0
 z0:=Tryz.sizeOf0
 v0:=Tryz.zeroValue0
 t3:=Tryz.underlying3
 a3:=Tryz.isAgg3
 z3:=Tryz.sizeOf3
 v3:=Tryz.zeroValue3
 t4:=Tryz.underlying4
 a4:=Tryz.isAgg4
 z4:=Tryz.sizeOf4
 v4:=Tryz.zeroValue4
 t9:=Tryz.underlying9
 a9:=Tryz.isAgg9
 z9:=Tryz.sizeOf9
 v9:=Tryz.zeroValue9
 t20:=Tryz.underlying20
 a20:=Tryz.isAgg20
 z20:=Tryz.sizeOf20
 v20:=Tryz.zeroValue20
 t31:=Tryz.underlying39
 a31:=Tryz.isAgg39
 z31:=Tryz.sizeOf39
 v31:=Tryz.zeroValue39
 t37:=Tryz.underlying101
 a37:=Tryz.isAgg101
 z37:=Tryz.sizeOf101
 v37:=Tryz.zeroValue101
 t70:=Tryz.underlying100
 a70:=Tryz.isAgg100
 z70:=Tryz.sizeOf100
 v70:=Tryz.zeroValue100
 t72:=Tryz.underlying103
 a72:=Tryz.isAgg103
 z72:=Tryz.sizeOf103
 v72:=Tryz.zeroValue103
 t75:=Tryz.underlying105
 a75:=Tryz.isAgg105
 z75:=Tryz.sizeOf105
 v75:=Tryz.zeroValue105
 t76:=Tryz.underlying106
 a76:=Tryz.isAgg106
 z76:=Tryz.sizeOf106
 v76:=Tryz.zeroValue106
 t127:=Tryz.underlying191
 a127:=Tryz.isAgg191
 z127:=Tryz.sizeOf191
 v127:=Tryz.zeroValue191
 t164:=Tryz.underlying263
 a164:=Tryz.isAgg263
 z164:=Tryz.sizeOf263
 v164:=Tryz.zeroValue263 }
theorem PX:Builder.Extra Tryz.prog acQ:={
 sizeBuilder:=by kernel_rfl
 liesBuilder:=by kernel_rfl
 t5:=Tryz.underlying5
 a5:=Tryz.isAgg5
 z5:=Tryz.sizeOf5
 v5:=Tryz.zeroValue5
 infoByte:=by kernel_rfl
 cellsByte:=by kernel_rfl
 sizeByte:=by kernel_rfl
 neB5:=by decide }
theorem strings_Join_none (a:Option Addr) (c:Nat) (sep:ByteArray) (w:World) :Calls Tryz.prog 111 #[.slice a 0 c,.string sep] w λe w'=>e=.returned (.string ⟨#[]⟩)/\w'=w:=Any.strings_Join_none V7 PX a c sep w
theorem strings_Join (bk o c:Nat) (xs:List ByteArray) (sep:ByteArray) (w:World) (hcells:∀ (j:Nat) x,xs[j]?=some x->w.cell? ⟨bk,o+j,none⟩=some (.string x)) (hbk:bk<w.heap.size) (hN:xs.length<=140737488355328) (hcap:xs.length<=c) (hlen:(Lib.join (xs.map (·.data.toList)) sep.data.toList).length<=140737488355328) :Calls Tryz.prog 111 #[.slice (some ⟨bk,o,none⟩) xs.length c,.string sep] w λe w'=>e=.returned (.string ⟨(Lib.join (xs.map (·.data.toList)) sep.data.toList).toArray⟩)/\Below w.heap.size w w':=Any.strings_Join V7 PX bk o c xs sep w hcells hbk hN hcap hlen
end
end Go.Proofs.YthohlofpphjofaaGreatDoor
