/- The symbols of the program's four systems: contracts. -/
import Derived.Shelf.Small.Bits
import Derived.Shelf.Utf8.RuneCount
import Derived.Shelf.Strconv.Itoa3
import Derived.Shelf.Strconv.ErrVarAll
import Derived.Shelf.Strings.Shaped
import Derived.Shelf.Strings.SplitShaped
import Derived.Shelf.Strings.Explode
import Derived.Shelf.Strings.Repeat
import Derived.Shelf.Unicode.DecodeAny
import Derived.Shelf.Unicode.IsSpaceAny
import Derived.Shelf.Unicode.ExclAny
import Derived.Shelf.Strings.BuilderCap
import Derived.Shelf.Slices.Clone
import Derived.Shelf.Slices.SearchI
import Derived.Shelf.SlicesE.Clone
import Derived.Test.YtockempedekkkaaGreatDoorProg
import Derived.Test.YtockempedekkkaaGreatDoorE1Jq
import Derived.Deep.RegionHeld3
set_option maxHeartbeats 400000
set_option maxRecDepth 100000
set_option linter.unusedVariables false
set_option linter.unusedSimpArgs false
namespace Go.Proofs
open Go.Shelf
def Tryz.lays172_ren:Go.Shelf.Ren:=⟨fun|172=>21|244=>48|245=>49|247=>81|279=>82|280=>83|281=>84|282=>85|287=>113|316=>114|171=>15|205=>115|321=>129|322=>130|243=>45|246=>76|283=>102|284=>103|285=>104|286=>105|129=>122|317=>121|318=>123|319=>124|320=>125|337=>140|338=>141|n=>n,fun|9=>9|3=>3|75=>61|76=>62|4=>4|5=>5|167=>154|37=>57|0=>0|85=>155|2=>2|168=>157|53=>199|175=>210|46=>206|210=>214|127=>107|145=>229|143=>227|21=>21|171=>198|173=>202|212=>222|51=>146|20=>20|213=>223|232=>247|233=>248|80=>65|n=>n,fun|15=>3|16=>4|17=>5|18=>8|19=>9|n=>n⟩
def Tryz.laysM246_ren:Go.Shelf.Ren:=⟨fun|246=>76|283=>102|284=>103|285=>104|286=>105|129=>122|317=>121|318=>123|319=>124|320=>125|337=>140|338=>141|n=>n,fun|2=>2|3=>3|9=>9|4=>4|171=>198|0=>0|53=>199|37=>57|5=>5|173=>202|212=>222|51=>146|20=>20|213=>223|46=>206|232=>247|233=>248|n=>n,fun|17=>5|18=>8|19=>9|n=>n⟩
def Tryz.laysM243_ren:Go.Shelf.Ren:=⟨fun|243=>45|246=>76|283=>102|284=>103|285=>104|286=>105|129=>122|317=>121|318=>123|319=>124|320=>125|337=>140|338=>141|n=>n,fun|3=>3|9=>9|2=>2|4=>4|171=>198|0=>0|53=>199|37=>57|5=>5|173=>202|212=>222|51=>146|20=>20|213=>223|46=>206|232=>247|233=>248|n=>n,fun|17=>5|18=>8|19=>9|n=>n⟩
def Tryz.laysM171_ren:Go.Shelf.Ren:=⟨fun|171=>15|243=>45|246=>76|283=>102|284=>103|285=>104|286=>105|129=>122|317=>121|318=>123|319=>124|320=>125|337=>140|338=>141|n=>n,fun|3=>3|9=>9|2=>2|4=>4|171=>198|0=>0|53=>199|37=>57|5=>5|173=>202|212=>222|51=>146|20=>20|213=>223|46=>206|232=>247|233=>248|n=>n,fun|17=>5|18=>8|19=>9|n=>n⟩
theorem Tryz.laysM171:Go.Proofs.LaysM.n171 Tryz.prog Tryz.laysM171_ren:={
 mixed:=by kernel_rfl
 f129:=Tryz.func122.trans (congrArg some (by kernel_rfl))
 f171:=Tryz.func15.trans (congrArg some (by kernel_rfl))
 f243:=Tryz.func45.trans (congrArg some (by kernel_rfl))
 f246:=Tryz.func76.trans (congrArg some (by kernel_rfl))
 f283:=Tryz.func102.trans (congrArg some (by kernel_rfl))
 f284:=Tryz.func103.trans (congrArg some (by kernel_rfl))
 f285:=Tryz.func104.trans (congrArg some (by kernel_rfl))
 f286:=Tryz.func105.trans (congrArg some (by kernel_rfl))
 f317:=Tryz.func121.trans (congrArg some (by kernel_rfl))
 f318:=Tryz.func123.trans (congrArg some (by kernel_rfl))
 f319:=Tryz.func124.trans (congrArg some (by kernel_rfl))
 f320:=Tryz.func125.trans (congrArg some (by kernel_rfl))
 f337:=Tryz.func140.trans (congrArg some (by kernel_rfl))
 f338:=Tryz.func141.trans (congrArg some (by kernel_rfl))
 t0:=Tryz.underlying0
 a0:=Tryz.isAgg0
 z0:=Tryz.sizeOf0
 v0:=Tryz.zeroValue0
 t2:=Tryz.underlying2
 a2:=Tryz.isAgg2
 z2:=Tryz.sizeOf2
 v2:=Tryz.zeroValue2
 t3:=Tryz.underlying3
 a3:=Tryz.isAgg3
 z3:=Tryz.sizeOf3
 v3:=Tryz.zeroValue3
 t4:=Tryz.underlying4
 a4:=Tryz.isAgg4
 z4:=Tryz.sizeOf4
 v4:=Tryz.zeroValue4
 t5:=Tryz.underlying5
 a5:=Tryz.isAgg5
 z5:=Tryz.sizeOf5
 v5:=Tryz.zeroValue5
 t9:=Tryz.underlying9
 a9:=Tryz.isAgg9
 z9:=Tryz.sizeOf9
 v9:=Tryz.zeroValue9
 t20:=Tryz.underlying20
 a20:=Tryz.isAgg20
 z20:=Tryz.sizeOf20
 v20:=Tryz.zeroValue20
 t37:=Tryz.underlying57
 a37:=Tryz.isAgg57
 z37:=Tryz.sizeOf57
 v37:=Tryz.zeroValue57
 t46:=Tryz.underlying206
 a46:=Tryz.isAgg206
 z46:=Tryz.sizeOf206
 v46:=Tryz.zeroValue206
 t51:=Tryz.underlying146
 a51:=Tryz.isAgg146
 z51:=Tryz.sizeOf146
 v51:=Tryz.zeroValue146
 t53:=Tryz.underlying199
 a53:=Tryz.isAgg199
 z53:=Tryz.sizeOf199
 v53:=Tryz.zeroValue199
 t171:=Tryz.underlying198
 a171:=Tryz.isAgg198
 z171:=Tryz.sizeOf198
 v171:=Tryz.zeroValue198
 t173:=Tryz.underlying202
 a173:=Tryz.isAgg202
 z173:=Tryz.sizeOf202
 v173:=Tryz.zeroValue202
 t212:=Tryz.underlying222
 a212:=Tryz.isAgg222
 z212:=Tryz.sizeOf222
 v212:=Tryz.zeroValue222
 t213:=Tryz.underlying223
 a213:=Tryz.isAgg223
 z213:=Tryz.sizeOf223
 t232:=Tryz.underlying247
 a232:=Tryz.isAgg247
 z232:=Tryz.sizeOf247
 v232:=Tryz.zeroValue247
 t233:=Tryz.underlying248
 a233:=Tryz.isAgg248
 z233:=Tryz.sizeOf248
 v233:=Tryz.zeroValue248
 g17:=by kernel_rfl
 g18:=by kernel_rfl
 g19:=by kernel_rfl
 i0:=by kernel_rfl
 i2:=by kernel_rfl
 i3:=by kernel_rfl
 i4:=by kernel_rfl
 i5:=by kernel_rfl
 i9:=by kernel_rfl
 i20:=by kernel_rfl
 i37:=by kernel_rfl
 i46:=by kernel_rfl
 i51:=by kernel_rfl
 i53:=by kernel_rfl
 i171:=by kernel_rfl
 i173:=by kernel_rfl
 i212:=by kernel_rfl
 i232:=by kernel_rfl
 i233:=by kernel_rfl
 m17:=by kernel_rfl
 m18:=by kernel_rfl
 m19:=by kernel_rfl }
open Go.RowKit Go.Sort Go.Lib in
theorem Tryz.strconv_Itoa (n:Int) (h0:-9223372036854775808≤n) (h1:n≤9223372036854775807) (w:World) (htab:Lib.TabIs Tryz.prog w "internal/strconv.uint64pow10" .u64 Lib.pow10Tab) :
  Calls Tryz.prog 15 #[.int .i64 n] w fun e w'=>e=.returned (.string ⟨(Lib.itoa n).toArray⟩)∧∃ k os,w'=grow (w.drewN k) os:=Any.strconv_Itoa Tryz.laysM171 n h0 h1 w htab
def Tryz.lays171_ren:Go.Shelf.Ren:=⟨fun|171=>15|243=>45|246=>76|283=>102|284=>103|285=>104|286=>105|129=>122|317=>121|318=>123|319=>124|320=>125|337=>140|338=>141|n=>n,fun|3=>3|9=>9|2=>2|4=>4|171=>198|0=>0|53=>199|37=>57|5=>5|173=>202|212=>222|51=>146|20=>20|213=>223|46=>206|232=>247|233=>248|n=>n,fun|17=>5|18=>8|19=>9|n=>n⟩
theorem Tryz.lays171:Go.Proofs.Lays.n171 Tryz.prog Tryz.lays171_ren:={
 mixed:=by kernel_rfl
 f129:=Tryz.func122.trans (congrArg some (by kernel_rfl))
 f171:=Tryz.func15.trans (congrArg some (by kernel_rfl))
 f243:=Tryz.func45.trans (congrArg some (by kernel_rfl))
 f246:=Tryz.func76.trans (congrArg some (by kernel_rfl))
 f283:=Tryz.func102.trans (congrArg some (by kernel_rfl))
 f284:=Tryz.func103.trans (congrArg some (by kernel_rfl))
 f285:=Tryz.func104.trans (congrArg some (by kernel_rfl))
 f286:=Tryz.func105.trans (congrArg some (by kernel_rfl))
 f317:=Tryz.func121.trans (congrArg some (by kernel_rfl))
 f318:=Tryz.func123.trans (congrArg some (by kernel_rfl))
 f319:=Tryz.func124.trans (congrArg some (by kernel_rfl))
 f320:=Tryz.func125.trans (congrArg some (by kernel_rfl))
 f337:=Tryz.func140.trans (congrArg some (by kernel_rfl))
 f338:=Tryz.func141.trans (congrArg some (by kernel_rfl))
 t0:=Tryz.underlying0
 a0:=Tryz.isAgg0
 z0:=Tryz.sizeOf0
 v0:=Tryz.zeroValue0
 t2:=Tryz.underlying2
 a2:=Tryz.isAgg2
 z2:=Tryz.sizeOf2
 v2:=Tryz.zeroValue2
 t3:=Tryz.underlying3
 a3:=Tryz.isAgg3
 z3:=Tryz.sizeOf3
 v3:=Tryz.zeroValue3
 t4:=Tryz.underlying4
 a4:=Tryz.isAgg4
 z4:=Tryz.sizeOf4
 v4:=Tryz.zeroValue4
 t5:=Tryz.underlying5
 a5:=Tryz.isAgg5
 z5:=Tryz.sizeOf5
 v5:=Tryz.zeroValue5
 t9:=Tryz.underlying9
 a9:=Tryz.isAgg9
 z9:=Tryz.sizeOf9
 v9:=Tryz.zeroValue9
 t20:=Tryz.underlying20
 a20:=Tryz.isAgg20
 z20:=Tryz.sizeOf20
 v20:=Tryz.zeroValue20
 t37:=Tryz.underlying57
 a37:=Tryz.isAgg57
 z37:=Tryz.sizeOf57
 v37:=Tryz.zeroValue57
 t46:=Tryz.underlying206
 a46:=Tryz.isAgg206
 z46:=Tryz.sizeOf206
 v46:=Tryz.zeroValue206
 t51:=Tryz.underlying146
 a51:=Tryz.isAgg146
 z51:=Tryz.sizeOf146
 v51:=Tryz.zeroValue146
 t53:=Tryz.underlying199
 a53:=Tryz.isAgg199
 z53:=Tryz.sizeOf199
 v53:=Tryz.zeroValue199
 t171:=Tryz.underlying198
 a171:=Tryz.isAgg198
 z171:=Tryz.sizeOf198
 v171:=Tryz.zeroValue198
 t173:=Tryz.underlying202
 a173:=Tryz.isAgg202
 z173:=Tryz.sizeOf202
 v173:=Tryz.zeroValue202
 t212:=Tryz.underlying222
 a212:=Tryz.isAgg222
 z212:=Tryz.sizeOf222
 v212:=Tryz.zeroValue222
 t213:=Tryz.underlying223
 a213:=Tryz.isAgg223
 z213:=Tryz.sizeOf223
 t232:=Tryz.underlying247
 a232:=Tryz.isAgg247
 z232:=Tryz.sizeOf247
 v232:=Tryz.zeroValue247
 t233:=Tryz.underlying248
 a233:=Tryz.isAgg248
 z233:=Tryz.sizeOf248
 v233:=Tryz.zeroValue248
 g17:=by kernel_rfl
 g18:=by kernel_rfl
 g19:=by kernel_rfl }
open Go.RowKit Go.Sort Go.Lib in
theorem Tryz.strconv_Itoa_small (i:Nat) (hi:i<100) (w:World) :
  Calls Tryz.prog 15 #[.int .i64 i] w fun e w'=>e=.returned (.string ⟨(Lib.decDigits i).toArray⟩)∧w'=w:=Any.strconv_Itoa_small Tryz.lays171 i hi w
def Tryz.laysC172_ren:Go.Shelf.Ren:=⟨fun|172=>21|244=>48|245=>49|247=>81|279=>82|280=>83|281=>84|282=>85|287=>113|316=>114|171=>15|205=>115|321=>129|322=>130|243=>45|246=>76|283=>102|284=>103|285=>104|286=>105|129=>122|317=>121|318=>123|319=>124|320=>125|337=>140|338=>141|n=>n,fun|9=>9|3=>3|75=>61|76=>62|4=>4|5=>5|167=>154|37=>57|0=>0|85=>155|2=>2|168=>157|53=>199|175=>210|46=>206|210=>214|127=>107|145=>229|143=>227|21=>21|171=>198|173=>202|212=>222|51=>146|20=>20|213=>223|232=>247|233=>248|80=>65|n=>n,fun|15=>3|16=>4|17=>5|18=>8|19=>9|n=>n⟩
theorem Tryz.laysC172:Go.Proofs.LaysC.n172 Tryz.prog Tryz.laysC172_ren:={
 mixed:=by kernel_rfl
 f129:=Tryz.func122.trans (congrArg some (by kernel_rfl))
 f171:=Tryz.func15.trans (congrArg some (by kernel_rfl))
 f172:=Tryz.func21.trans (congrArg some (by kernel_rfl))
 f205:=Tryz.func115.trans (congrArg some (by kernel_rfl))
 f243:=Tryz.func45.trans (congrArg some (by kernel_rfl))
 f244:=Tryz.func48.trans (congrArg some (by kernel_rfl))
 f245:=Tryz.func49.trans (congrArg some (by kernel_rfl))
 f246:=Tryz.func76.trans (congrArg some (by kernel_rfl))
 f247:=Tryz.func81.trans (congrArg some (by kernel_rfl))
 f279:=Tryz.func82.trans (congrArg some (by kernel_rfl))
 f280:=Tryz.func83.trans (congrArg some (by kernel_rfl))
 f281:=Tryz.func84.trans (congrArg some (by kernel_rfl))
 f282:=Tryz.func85.trans (congrArg some (by kernel_rfl))
 f283:=Tryz.func102.trans (congrArg some (by kernel_rfl))
 f284:=Tryz.func103.trans (congrArg some (by kernel_rfl))
 f285:=Tryz.func104.trans (congrArg some (by kernel_rfl))
 f286:=Tryz.func105.trans (congrArg some (by kernel_rfl))
 f287:=Tryz.func113.trans (congrArg some (by kernel_rfl))
 f316:=Tryz.func114.trans (congrArg some (by kernel_rfl))
 f317:=Tryz.func121.trans (congrArg some (by kernel_rfl))
 f318:=Tryz.func123.trans (congrArg some (by kernel_rfl))
 f319:=Tryz.func124.trans (congrArg some (by kernel_rfl))
 f320:=Tryz.func125.trans (congrArg some (by kernel_rfl))
 f321:=Tryz.func129.trans (congrArg some (by kernel_rfl))
 f322:=Tryz.func130.trans (congrArg some (by kernel_rfl))
 f337:=Tryz.func140.trans (congrArg some (by kernel_rfl))
 f338:=Tryz.func141.trans (congrArg some (by kernel_rfl))
 t0:=Tryz.underlying0
 a0:=Tryz.isAgg0
 z0:=Tryz.sizeOf0
 v0:=Tryz.zeroValue0
 t2:=Tryz.underlying2
 a2:=Tryz.isAgg2
 z2:=Tryz.sizeOf2
 v2:=Tryz.zeroValue2
 t3:=Tryz.underlying3
 a3:=Tryz.isAgg3
 z3:=Tryz.sizeOf3
 v3:=Tryz.zeroValue3
 t4:=Tryz.underlying4
 a4:=Tryz.isAgg4
 z4:=Tryz.sizeOf4
 v4:=Tryz.zeroValue4
 t5:=Tryz.underlying5
 a5:=Tryz.isAgg5
 z5:=Tryz.sizeOf5
 v5:=Tryz.zeroValue5
 t9:=Tryz.underlying9
 a9:=Tryz.isAgg9
 z9:=Tryz.sizeOf9
 v9:=Tryz.zeroValue9
 t20:=Tryz.underlying20
 a20:=Tryz.isAgg20
 z20:=Tryz.sizeOf20
 v20:=Tryz.zeroValue20
 t21:=Tryz.underlying21
 a21:=Tryz.isAgg21
 z21:=Tryz.sizeOf21
 v21:=Tryz.zeroValue21
 t37:=Tryz.underlying57
 a37:=Tryz.isAgg57
 z37:=Tryz.sizeOf57
 v37:=Tryz.zeroValue57
 t46:=Tryz.underlying206
 a46:=Tryz.isAgg206
 z46:=Tryz.sizeOf206
 v46:=Tryz.zeroValue206
 t51:=Tryz.underlying146
 a51:=Tryz.isAgg146
 z51:=Tryz.sizeOf146
 v51:=Tryz.zeroValue146
 t53:=Tryz.underlying199
 a53:=Tryz.isAgg199
 z53:=Tryz.sizeOf199
 v53:=Tryz.zeroValue199
 t75:=Tryz.underlying61
 a75:=Tryz.isAgg61
 z75:=Tryz.sizeOf61
 v75:=Tryz.zeroValue61
 t76:=Tryz.underlying62
 a76:=Tryz.isAgg62
 z76:=Tryz.sizeOf62
 v76:=Tryz.zeroValue62
 t85:=Tryz.underlying155
 a85:=Tryz.isAgg155
 z85:=Tryz.sizeOf155
 v85:=Tryz.zeroValue155
 t127:=Tryz.underlying107
 a127:=Tryz.isAgg107
 z127:=Tryz.sizeOf107
 v127:=Tryz.zeroValue107
 t143:=Tryz.underlying227
 a143:=Tryz.isAgg227
 z143:=Tryz.sizeOf227
 v143:=Tryz.zeroValue227
 t145:=Tryz.underlying229
 a145:=Tryz.isAgg229
 z145:=Tryz.sizeOf229
 v145:=Tryz.zeroValue229
 t167:=Tryz.underlying154
 a167:=Tryz.isAgg154
 z167:=Tryz.sizeOf154
 v167:=Tryz.zeroValue154
 t168:=Tryz.underlying157
 a168:=Tryz.isAgg157
 z168:=Tryz.sizeOf157
 v168:=Tryz.zeroValue157
 t171:=Tryz.underlying198
 a171:=Tryz.isAgg198
 z171:=Tryz.sizeOf198
 v171:=Tryz.zeroValue198
 t173:=Tryz.underlying202
 a173:=Tryz.isAgg202
 z173:=Tryz.sizeOf202
 v173:=Tryz.zeroValue202
 t175:=Tryz.underlying210
 a175:=Tryz.isAgg210
 z175:=Tryz.sizeOf210
 v175:=Tryz.zeroValue210
 t210:=Tryz.underlying214
 a210:=Tryz.isAgg214
 z210:=Tryz.sizeOf214
 v210:=Tryz.zeroValue214
 t212:=Tryz.underlying222
 a212:=Tryz.isAgg222
 z212:=Tryz.sizeOf222
 v212:=Tryz.zeroValue222
 t213:=Tryz.underlying223
 a213:=Tryz.isAgg223
 z213:=Tryz.sizeOf223
 t232:=Tryz.underlying247
 a232:=Tryz.isAgg247
 z232:=Tryz.sizeOf247
 v232:=Tryz.zeroValue247
 t233:=Tryz.underlying248
 a233:=Tryz.isAgg248
 z233:=Tryz.sizeOf248
 v233:=Tryz.zeroValue248
 g15:=by kernel_rfl
 g16:=by kernel_rfl
 g17:=by kernel_rfl
 g18:=by kernel_rfl
 g19:=by kernel_rfl
 t80:=Tryz.underlying65
 a80:=Tryz.isAgg65
 z80:=Tryz.sizeOf65
 v80:=Tryz.zeroValue65
 i0:=by kernel_rfl
 i2:=by kernel_rfl
 i3:=by kernel_rfl
 i4:=by kernel_rfl
 i5:=by kernel_rfl
 i9:=by kernel_rfl
 i20:=by kernel_rfl
 i21:=by kernel_rfl
 i37:=by kernel_rfl
 i46:=by kernel_rfl
 i51:=by kernel_rfl
 i53:=by kernel_rfl
 i75:=by kernel_rfl
 i76:=by kernel_rfl
 i80:=by kernel_rfl
 i85:=by kernel_rfl
 i127:=by kernel_rfl
 i143:=by kernel_rfl
 i145:=by kernel_rfl
 i167:=by kernel_rfl
 i168:=by kernel_rfl
 i171:=by kernel_rfl
 i173:=by kernel_rfl
 i175:=by kernel_rfl
 i210:=by kernel_rfl
 i212:=by kernel_rfl
 i232:=by kernel_rfl
 i233:=by kernel_rfl
 m15:=by kernel_rfl
 m16:=by kernel_rfl
 m17:=by kernel_rfl
 m18:=by kernel_rfl
 m19:=by kernel_rfl
 c0:=by kernel_rfl
 c2:=by kernel_rfl
 c3:=by kernel_rfl
 c4:=by kernel_rfl
 c5:=by kernel_rfl
 c9:=by kernel_rfl
 c20:=by kernel_rfl
 c21:=by kernel_rfl
 c37:=by kernel_rfl
 c46:=by kernel_rfl
 c51:=by kernel_rfl
 c53:=by kernel_rfl
 c75:=by kernel_rfl
 c76:=by kernel_rfl
 c80:=by kernel_rfl
 c85:=by kernel_rfl
 c127:=by kernel_rfl
 c143:=by kernel_rfl
 c145:=by kernel_rfl
 c167:=by kernel_rfl
 c168:=by kernel_rfl
 c171:=by kernel_rfl
 c173:=by kernel_rfl
 c175:=by kernel_rfl
 c210:=by kernel_rfl
 c212:=by kernel_rfl
 c213:=by kernel_rfl
 c232:=by kernel_rfl
 c233:=by kernel_rfl }
open Go.RowKit in
theorem Tryz.strconv_Atoi_ok (s:ByteArray)(hmax:s.size≤9223372036854775806)(v:Int)(h:Lib.atoiAll s.data.toList=.ok v)(w:World) :
  Calls Tryz.prog 21 #[.string s] w fun e w'=>e=.returned (.tuple #[.int .i64 v,.nilIface])∧(w'=w∨∃ t,w'=Lib.bytesWorld w 5 t):=Any.strconv_Atoi_ok Tryz.laysC172 s hmax v h w
open Go.RowKit in
theorem Tryz.strconv_Atoi_syntax (s:ByteArray) (hlim:s.size≤281474976710656) (h:Lib.atoiAll s.data.toList=Lib.atoiAll []) (ev:Value) (w:World) (hv:w.cell? ⟨3,0,none⟩=some ev) (hev:ev=.nilIface∨∃ te pe,ev=.iface te pe) :
  Calls Tryz.prog 21 #[.string s] w fun e w'=>∃ N,e=.returned (.tuple #[.int .i64 (0),.iface 157 (.pointer (some ⟨N,0,none⟩))])∧w.heap.size≤N∧w'.heap[N]?=some (.cells #[.string ⟨#[65,116,111,105]⟩,.string s,ev] 214 (0,0))∧Below w.heap.size w w':=Any.strconv_Atoi_syntax Tryz.laysC172 s hlim h ev w hv hev
open Go.RowKit in
theorem Tryz.strconv_Atoi_range (s:ByteArray) (hlim:s.size≤281474976710656) (h:Lib.atoiAll s.data.toList=.range) (ev:Value) (w:World) (hv:w.cell? ⟨4,0,none⟩=some ev) (hev:ev=.nilIface∨∃ te pe,ev=.iface te pe) :
  Calls Tryz.prog 21 #[.string s] w fun e w'=>∃ N,e=.returned (.tuple #[.int .i64 (Lib.atoiSat s.data.toList),.iface 157 (.pointer (some ⟨N,0,none⟩))])∧w.heap.size≤N∧w'.heap[N]?=some (.cells #[.string ⟨#[65,116,111,105]⟩,.string s,ev] 214 (0,0))∧Below w.heap.size w w':=Any.strconv_Atoi_range Tryz.laysC172 s hlim h ev w hv hev
def Tryz.lays219_ren:Go.Shelf.Ren:=⟨fun|219=>77|217=>106|225=>107|224=>108|267=>109|266=>126|314=>127|n=>n,fun|9=>9|3=>3|4=>4|5=>5|46=>206|146=>224|51=>146|n=>n,fun|1=>2|n=>n⟩
def Tryz.lays145_ren:Go.Shelf.Ren:=⟨fun|145=>19|220=>46|219=>77|217=>106|225=>107|224=>108|267=>109|266=>126|314=>127|n=>n,fun|9=>9|4=>4|59=>67|3=>3|5=>5|46=>206|146=>224|51=>146|n=>n,fun|1=>2|n=>n⟩
theorem Tryz.lays145:Go.Proofs.Lays.n145 Tryz.prog Tryz.lays145_ren:={
 mixed:=by kernel_rfl
 f145:=Tryz.func19.trans (congrArg some (by kernel_rfl))
 f217:=Tryz.func106.trans (congrArg some (by kernel_rfl))
 f219:=Tryz.func77.trans (congrArg some (by kernel_rfl))
 f220:=Tryz.func46.trans (congrArg some (by kernel_rfl))
 f224:=Tryz.func108.trans (congrArg some (by kernel_rfl))
 f225:=Tryz.func107.trans (congrArg some (by kernel_rfl))
 f266:=Tryz.func126.trans (congrArg some (by kernel_rfl))
 f267:=Tryz.func109.trans (congrArg some (by kernel_rfl))
 f314:=Tryz.func127.trans (congrArg some (by kernel_rfl))
 t3:=Tryz.underlying3
 a3:=Tryz.isAgg3
 z3:=Tryz.sizeOf3
 v3:=Tryz.zeroValue3
 t4:=Tryz.underlying4
 a4:=Tryz.isAgg4
 z4:=Tryz.sizeOf4
 v4:=Tryz.zeroValue4
 t5:=Tryz.underlying5
 a5:=Tryz.isAgg5
 z5:=Tryz.sizeOf5
 v5:=Tryz.zeroValue5
 t9:=Tryz.underlying9
 a9:=Tryz.isAgg9
 z9:=Tryz.sizeOf9
 v9:=Tryz.zeroValue9
 t46:=Tryz.underlying206
 a46:=Tryz.isAgg206
 z46:=Tryz.sizeOf206
 v46:=Tryz.zeroValue206
 t51:=Tryz.underlying146
 a51:=Tryz.isAgg146
 z51:=Tryz.sizeOf146
 v51:=Tryz.zeroValue146
 t59:=Tryz.underlying67
 a59:=Tryz.isAgg67
 z59:=Tryz.sizeOf67
 v59:=Tryz.zeroValue67
 t146:=Tryz.underlying224
 a146:=Tryz.isAgg224
 z146:=Tryz.sizeOf224
 v146:=Tryz.zeroValue224
 g1:=by kernel_rfl }
open Go.RowKit Go.Lib in
theorem Tryz.strings_Cut (s sep:ByteArray) (m:Int) (w:World) (hs:s.size<4294967281) (hm:w.cell? ⟨2,0,none⟩=some (.int .i64 m)) :
  Calls Tryz.prog 19 #[.string s,.string sep] w fun e w'=>e=.returned (.tuple #[.string ⟨(Lib.cut s.data.toList sep.data.toList).1.toArray⟩,.string ⟨(Lib.cut s.data.toList sep.data.toList).2.1.toArray⟩,.bool (Lib.cut s.data.toList sep.data.toList).2.2])∧∃ n,w'=w.drewN n:=Any.strings_Cut Tryz.lays145 s sep m w hs hm
def Tryz.lays221_ren:Go.Shelf.Ren:=⟨fun|221=>47|268=>78|138=>79|143=>80|195=>110|197=>111|218=>112|219=>77|260=>128|217=>106|225=>107|224=>108|267=>109|266=>126|314=>127|n=>n,fun|9=>9|3=>3|31=>54|4=>4|0=>0|105=>208|21=>21|5=>5|46=>206|119=>104|139=>240|138=>239|146=>224|51=>146|n=>n,fun|1=>2|3=>6|4=>7|n=>n⟩
def Tryz.lays146_ren:Go.Shelf.Ren:=⟨fun|146=>20|221=>47|268=>78|138=>79|143=>80|195=>110|197=>111|218=>112|219=>77|260=>128|217=>106|225=>107|224=>108|267=>109|266=>126|314=>127|n=>n,fun|9=>9|31=>54|3=>3|4=>4|0=>0|105=>208|21=>21|5=>5|46=>206|119=>104|139=>240|138=>239|146=>224|51=>146|n=>n,fun|1=>2|3=>6|4=>7|n=>n⟩
theorem Tryz.lays146:Go.Proofs.Lays.n146 Tryz.prog Tryz.lays146_ren:={
 mixed:=by kernel_rfl
 f138:=Tryz.func79.trans (congrArg some (by kernel_rfl))
 f143:=Tryz.func80.trans (congrArg some (by kernel_rfl))
 f146:=Tryz.func20.trans (congrArg some (by kernel_rfl))
 f195:=Tryz.func110.trans (congrArg some (by kernel_rfl))
 f197:=Tryz.func111.trans (congrArg some (by kernel_rfl))
 f217:=Tryz.func106.trans (congrArg some (by kernel_rfl))
 f218:=Tryz.func112.trans (congrArg some (by kernel_rfl))
 f219:=Tryz.func77.trans (congrArg some (by kernel_rfl))
 f221:=Tryz.func47.trans (congrArg some (by kernel_rfl))
 f224:=Tryz.func108.trans (congrArg some (by kernel_rfl))
 f225:=Tryz.func107.trans (congrArg some (by kernel_rfl))
 f260:=Tryz.func128.trans (congrArg some (by kernel_rfl))
 f266:=Tryz.func126.trans (congrArg some (by kernel_rfl))
 f267:=Tryz.func109.trans (congrArg some (by kernel_rfl))
 f268:=Tryz.func78.trans (congrArg some (by kernel_rfl))
 f314:=Tryz.func127.trans (congrArg some (by kernel_rfl))
 t0:=Tryz.underlying0
 a0:=Tryz.isAgg0
 z0:=Tryz.sizeOf0
 v0:=Tryz.zeroValue0
 t3:=Tryz.underlying3
 a3:=Tryz.isAgg3
 z3:=Tryz.sizeOf3
 v3:=Tryz.zeroValue3
 t4:=Tryz.underlying4
 a4:=Tryz.isAgg4
 z4:=Tryz.sizeOf4
 v4:=Tryz.zeroValue4
 t5:=Tryz.underlying5
 a5:=Tryz.isAgg5
 z5:=Tryz.sizeOf5
 v5:=Tryz.zeroValue5
 t9:=Tryz.underlying9
 a9:=Tryz.isAgg9
 z9:=Tryz.sizeOf9
 v9:=Tryz.zeroValue9
 t21:=Tryz.underlying21
 a21:=Tryz.isAgg21
 z21:=Tryz.sizeOf21
 v21:=Tryz.zeroValue21
 t31:=Tryz.underlying54
 a31:=Tryz.isAgg54
 z31:=Tryz.sizeOf54
 v31:=Tryz.zeroValue54
 t46:=Tryz.underlying206
 a46:=Tryz.isAgg206
 z46:=Tryz.sizeOf206
 v46:=Tryz.zeroValue206
 t51:=Tryz.underlying146
 a51:=Tryz.isAgg146
 z51:=Tryz.sizeOf146
 v51:=Tryz.zeroValue146
 t105:=Tryz.underlying208
 a105:=Tryz.isAgg208
 z105:=Tryz.sizeOf208
 v105:=Tryz.zeroValue208
 t119:=Tryz.underlying104
 a119:=Tryz.isAgg104
 z119:=Tryz.sizeOf104
 t138:=Tryz.underlying239
 a138:=Tryz.isAgg239
 z138:=Tryz.sizeOf239
 v138:=Tryz.zeroValue239
 t139:=Tryz.underlying240
 a139:=Tryz.isAgg240
 z139:=Tryz.sizeOf240
 v139:=Tryz.zeroValue240
 t146:=Tryz.underlying224
 a146:=Tryz.isAgg224
 z146:=Tryz.sizeOf224
 v146:=Tryz.zeroValue224
 g1:=by kernel_rfl
 g3:=by kernel_rfl
 g4:=by kernel_rfl }
open Go.RowKit Go.Lib in
theorem Tryz.strings_Split (s sep:ByteArray) (m:Int) (w:World) (hs:s.size<4294967281) (hm:w.cell? ⟨2,0,none⟩=some (.int .i64 m)) (h1:1≤sep.size) :
  Calls Tryz.prog 20 #[.string s,.string sep] w fun e w' =>
   e=.returned (.slice (some ⟨w.heap.size,0,none⟩) (Lib.countB s sep+1) (Lib.countB s sep+1))∧w'=w.alloc (.cells ((Lib.splitB sep 0 (Lib.countB s sep) s).map Value.string).toArray 9):=Any.strings_Split Tryz.lays146 (by kernel_rfl) s sep m w hs hm h1
def Tryz.lays157_ren:Go.Shelf.Ren:=⟨fun|157=>13|229=>42|199=>43|261=>74|311=>100|312=>101|n=>n,fun|9=>9|31=>54|3=>3|5=>5|4=>4|119=>104|0=>0|40=>106|152=>143|21=>21|154=>145|51=>146|141=>148|196=>190|193=>187|198=>193|49=>191|194=>188|201=>196|226=>219|46=>206|227=>220|n=>n,fun|0=>0|6=>1|n=>n⟩
theorem Tryz.lays157:Go.Proofs.Lays.n157 Tryz.prog Tryz.lays157_ren:={
 mixed:=by kernel_rfl
 f157:=Tryz.func13.trans (congrArg some (by kernel_rfl))
 f199:=Tryz.func43.trans (congrArg some (by kernel_rfl))
 f229:=Tryz.func42.trans (congrArg some (by kernel_rfl))
 f261:=Tryz.func74.trans (congrArg some (by kernel_rfl))
 f311:=Tryz.func100.trans (congrArg some (by kernel_rfl))
 f312:=Tryz.func101.trans (congrArg some (by kernel_rfl))
 t0:=Tryz.underlying0
 a0:=Tryz.isAgg0
 z0:=Tryz.sizeOf0
 v0:=Tryz.zeroValue0
 t3:=Tryz.underlying3
 a3:=Tryz.isAgg3
 z3:=Tryz.sizeOf3
 v3:=Tryz.zeroValue3
 t4:=Tryz.underlying4
 a4:=Tryz.isAgg4
 z4:=Tryz.sizeOf4
 v4:=Tryz.zeroValue4
 t5:=Tryz.underlying5
 a5:=Tryz.isAgg5
 z5:=Tryz.sizeOf5
 v5:=Tryz.zeroValue5
 t9:=Tryz.underlying9
 a9:=Tryz.isAgg9
 z9:=Tryz.sizeOf9
 v9:=Tryz.zeroValue9
 t21:=Tryz.underlying21
 a21:=Tryz.isAgg21
 z21:=Tryz.sizeOf21
 v21:=Tryz.zeroValue21
 t31:=Tryz.underlying54
 a31:=Tryz.isAgg54
 z31:=Tryz.sizeOf54
 v31:=Tryz.zeroValue54
 t40:=Tryz.underlying106
 a40:=Tryz.isAgg106
 z40:=Tryz.sizeOf106
 v40:=Tryz.zeroValue106
 t46:=Tryz.underlying206
 a46:=Tryz.isAgg206
 z46:=Tryz.sizeOf206
 v46:=Tryz.zeroValue206
 t49:=Tryz.underlying191
 a49:=Tryz.isAgg191
 z49:=Tryz.sizeOf191
 v49:=Tryz.zeroValue191
 t51:=Tryz.underlying146
 a51:=Tryz.isAgg146
 z51:=Tryz.sizeOf146
 v51:=Tryz.zeroValue146
 t119:=Tryz.underlying104
 a119:=Tryz.isAgg104
 z119:=Tryz.sizeOf104
 t141:=Tryz.underlying148
 a141:=Tryz.isAgg148
 z141:=Tryz.sizeOf148
 v141:=Tryz.zeroValue148
 t152:=Tryz.underlying143
 a152:=Tryz.isAgg143
 z152:=Tryz.sizeOf143
 v152:=Tryz.zeroValue143
 t154:=Tryz.underlying145
 a154:=Tryz.isAgg145
 z154:=Tryz.sizeOf145
 v154:=Tryz.zeroValue145
 t193:=Tryz.underlying187
 a193:=Tryz.isAgg187
 z193:=Tryz.sizeOf187
 v193:=Tryz.zeroValue187
 t194:=Tryz.underlying188
 a194:=Tryz.isAgg188
 z194:=Tryz.sizeOf188
 v194:=Tryz.zeroValue188
 t196:=Tryz.underlying190
 a196:=Tryz.isAgg190
 z196:=Tryz.sizeOf190
 v196:=Tryz.zeroValue190
 t198:=Tryz.underlying193
 a198:=Tryz.isAgg193
 z198:=Tryz.sizeOf193
 v198:=Tryz.zeroValue193
 t201:=Tryz.underlying196
 a201:=Tryz.isAgg196
 z201:=Tryz.sizeOf196
 v201:=Tryz.zeroValue196
 t226:=Tryz.underlying219
 a226:=Tryz.isAgg219
 z226:=Tryz.sizeOf219
 v226:=Tryz.zeroValue219
 t227:=Tryz.underlying220
 a227:=Tryz.isAgg220
 z227:=Tryz.sizeOf220
 v227:=Tryz.zeroValue220
 g0:=by kernel_rfl
 g6:=by kernel_rfl }
open Go.RowKit Go.Lib in
theorem Tryz.strings_Fields (s:ByteArray) (w:World) (hs:s.size<4294967281) (hascii:∀ (j:Nat) b,s.data.toList[j]?=some b→b.toNat<128) (htab:Lib.TabIs Tryz.prog w "strings.asciiSpace" .u8 Lib.asciiSpaceTab) :
  Calls Tryz.prog 13 #[.string s] w fun e w' =>
   e=.returned (.slice (some ⟨w.heap.size,0,none⟩) (Lib.fields s.data.toList).length (Lib.fields s.data.toList).length)∧w'=w.alloc (.cells ((Lib.fields s.data.toList).map fun l=>Value.string ⟨l.toArray⟩).toArray 9):=Any.strings_Fields Tryz.lays157 (by kernel_rfl) (by kernel_rfl) s w hs hascii htab
def Tryz.lays105_ren:Go.Shelf.Ren:=⟨fun|105=>175|212=>176|99=>177|165=>178|166=>14|170=>179|169=>16|263=>180|264=>181|206=>182|240=>44|241=>183|276=>75|277=>184|n=>n,fun|9=>9|3=>3|4=>4|20=>20|0=>0|46=>206|109=>267|5=>5|72=>59|76=>62|51=>146|146=>224|53=>199|148=>272|70=>56|37=>57|75=>61|127=>107|164=>149|80=>65|n=>n,fun|n=>n⟩
theorem Tryz.lays105:Go.Proofs.Lays.n105 Tryz.prog Tryz.lays105_ren:={
 mixed:=by kernel_rfl
 f99:=Tryz.func177.trans (congrArg some (by kernel_rfl))
 f105:=Tryz.func175.trans (congrArg some (by kernel_rfl))
 f165:=Tryz.func178.trans (congrArg some (by kernel_rfl))
 f166:=Tryz.func14.trans (congrArg some (by kernel_rfl))
 f169:=Tryz.func16.trans (congrArg some (by kernel_rfl))
 f170:=Tryz.func179.trans (congrArg some (by kernel_rfl))
 f206:=Tryz.func182.trans (congrArg some (by kernel_rfl))
 f212:=Tryz.func176.trans (congrArg some (by kernel_rfl))
 f240:=Tryz.func44.trans (congrArg some (by kernel_rfl))
 f241:=Tryz.func183.trans (congrArg some (by kernel_rfl))
 f263:=Tryz.func180.trans (congrArg some (by kernel_rfl))
 f264:=Tryz.func181.trans (congrArg some (by kernel_rfl))
 f276:=Tryz.func75.trans (congrArg some (by kernel_rfl))
 f277:=Tryz.func184.trans (congrArg some (by kernel_rfl))
 t0:=Tryz.underlying0
 a0:=Tryz.isAgg0
 z0:=Tryz.sizeOf0
 v0:=Tryz.zeroValue0
 t3:=Tryz.underlying3
 a3:=Tryz.isAgg3
 z3:=Tryz.sizeOf3
 v3:=Tryz.zeroValue3
 t4:=Tryz.underlying4
 a4:=Tryz.isAgg4
 z4:=Tryz.sizeOf4
 v4:=Tryz.zeroValue4
 t5:=Tryz.underlying5
 a5:=Tryz.isAgg5
 z5:=Tryz.sizeOf5
 v5:=Tryz.zeroValue5
 t9:=Tryz.underlying9
 a9:=Tryz.isAgg9
 z9:=Tryz.sizeOf9
 v9:=Tryz.zeroValue9
 t20:=Tryz.underlying20
 a20:=Tryz.isAgg20
 z20:=Tryz.sizeOf20
 v20:=Tryz.zeroValue20
 t37:=Tryz.underlying57
 a37:=Tryz.isAgg57
 z37:=Tryz.sizeOf57
 v37:=Tryz.zeroValue57
 t46:=Tryz.underlying206
 a46:=Tryz.isAgg206
 z46:=Tryz.sizeOf206
 v46:=Tryz.zeroValue206
 t51:=Tryz.underlying146
 a51:=Tryz.isAgg146
 z51:=Tryz.sizeOf146
 v51:=Tryz.zeroValue146
 t53:=Tryz.underlying199
 a53:=Tryz.isAgg199
 z53:=Tryz.sizeOf199
 v53:=Tryz.zeroValue199
 t70:=Tryz.underlying56
 a70:=Tryz.isAgg56
 z70:=Tryz.sizeOf56
 v70:=Tryz.zeroValue56
 t72:=Tryz.underlying59
 a72:=Tryz.isAgg59
 z72:=Tryz.sizeOf59
 v72:=Tryz.zeroValue59
 t75:=Tryz.underlying61
 a75:=Tryz.isAgg61
 z75:=Tryz.sizeOf61
 v75:=Tryz.zeroValue61
 t76:=Tryz.underlying62
 a76:=Tryz.isAgg62
 z76:=Tryz.sizeOf62
 v76:=Tryz.zeroValue62
 t109:=Tryz.underlying267
 a109:=Tryz.isAgg267
 z109:=Tryz.sizeOf267
 v109:=Tryz.zeroValue267
 t127:=Tryz.underlying107
 a127:=Tryz.isAgg107
 z127:=Tryz.sizeOf107
 v127:=Tryz.zeroValue107
 t146:=Tryz.underlying224
 a146:=Tryz.isAgg224
 z146:=Tryz.sizeOf224
 v146:=Tryz.zeroValue224
 t148:=Tryz.underlying272
 a148:=Tryz.isAgg272
 z148:=Tryz.sizeOf272
 v148:=Tryz.zeroValue272
 t164:=Tryz.underlying149
 a164:=Tryz.isAgg149
 z164:=Tryz.sizeOf149
 v164:=Tryz.zeroValue149 }
theorem Tryz.Builder_Extra_105:Builder.Extra Tryz.prog Tryz.lays105_ren:={
 sizeBuilder:=by kernel_rfl
 liesBuilder:=by kernel_rfl
 t5:=Tryz.underlying5
 a5:=Tryz.isAgg5
 z5:=Tryz.sizeOf5
 v5:=Tryz.zeroValue5
 infoByte:=by kernel_rfl
 cellsByte:=by kernel_rfl
 sizeByte:=by kernel_rfl
 neB5:=by decide }
open Go.RowKit Go.Lib in
theorem Tryz.strings_Repeat (s:ByteArray) (c:Nat) (w:World) (hc:c≤9223372036854775807) (hlen:s.size*c≤140737488355328) :
  Calls Tryz.prog 175 #[.string s,.int .i64 c] w fun e w'=>e=.returned (.string ⟨(Lib.repeatL s.data.toList c).toArray⟩)∧Below w.heap.size w w':=Any.strings_Repeat Tryz.lays105 Tryz.Builder_Extra_105 s c w hc hlen
end Go.Proofs
namespace Go.Proofs.YtockempedekkkaaGreatDoor
open Go.RowKit
attribute [local go_sem]mk_bs bs_size bs_toList bs_append bs_extract
attribute [local simp]run_cut run_cut_to run_cut_from run_add_bs
def dig2 (u:Nat):List UInt8:=if u<10 then [UInt8.ofNat (48+u)]else [UInt8.ofNat (48+u/10),UInt8.ofNat (48+u % 10)]
theorem decDigits_dig2 (u:Nat)(h:u<100):Lib.decDigits u=dig2 u:=by
 unfold dig2
 by_cases h1:u<10
 ·rw [if_pos h1,Lib.decDigits,dif_pos h1]
 ·rw [if_neg h1,Lib.decDigits,dif_neg h1,Lib.decDigits,dif_pos (by omega)];rfl
theorem itoa_any (n:Int)(w:World)(h0:0≤n)(h1:n<100) :
  Calls Tryz.prog 15 #[.int .i64 n] w fun e w'=>e=.returned (.string (bs (dig2 n.toNat)))∧w'=w:=by
 obtain⟨k,rfl⟩:=Int.eq_ofNat_of_zero_le h0
 rw [Int.toNat_natCast,← decDigits_dig2 k (by omega)]
 exact Tryz.strconv_Itoa_small k zqo w
theorem repeat_any (l:List UInt8) (c:Int) (w:World) (h0:0≤c) (h1:c≤100) (h2:l.length≤100) :
  Calls Tryz.prog 175 #[.string (bs l),.int .i64 c] w (Ret (.string (bs (Lib.repeatL l c.toNat))) w):=by
 obtain ⟨k,rfl⟩:=Int.eq_ofNat_of_zero_le h0
 have hk:l.length*k≤100*100:=Nat.mul_le_mul h2 zqo
 exact Tryz.strings_Repeat (bs l) k w (by omega) (by rw [bs_size];omega)
def frS (c f:Int):List UInt8 :=
 if 11≤c then dig2 (c-7).toNat else Lib.repeatL [47] (max (c-7) 0).toNat++cut [97,98,99,100,101,102,103,104,105,107,108,109,110,111,112,113,114,115,116] f (f+1)
def frOk(c f:Int):Bool:=if 11≤c then f == 0 else true
theorem fr_symbol_low (c f:Int) (w:World) (hc:11≤c) (hc':c≤14) (hf:0≤f) (hf':f≤18) :
  Calls Tryz.prog 173 #[.agg #[],.agg #[.int .i64 c,.int .i64 f]] w (Ret (.tuple #[.string (bs (frS c f)),.bool (frOk c f)]) w):=by
 have e1:frS c f=dig2 (c - 7).toNat:=if_pos hc
 have e2:frOk c f=(f == 0):=if_pos hc
 rw [e1,e2]
 go_enter Tryz.func173,Tryz.ntmps173
 go_wp2
 go_quiet ((go_at_call 15;exact Calls.quiet_of_same (itoa_any _ _ zqo zqo)))
 go_wp2
 go_ret2
 exact Ret.mk' rfl zqb
theorem fr_symbol_high (c f:Int) (w:World) (hc:1≤c) (hc':c≤10) (hf:0≤f) (hf':f≤18) :
  Calls Tryz.prog 173 #[.agg #[],.agg #[.int .i64 c,.int .i64 f]] w (Ret (.tuple #[.string (bs (frS c f)),.bool (frOk c f)]) w):=by
 have e1:frS c f=Lib.repeatL [47] (max (c - 7) 0).toNat++cut [97,98,99,100,101,102,103,104,105,107,108,109,110,111,112,113,114,115,116] f (f+1):=if_neg zqo
 have e2:frOk c f=true:=if_neg zqo
 have m0:0≤max (c - 7) 0:=by omega
 have m1:max (c - 7) 0≤100:=by omega
 have hsz:(Lib.repeatL [47] (max (c - 7) 0).toNat).length≤100:=by simp [Lib.repeatL_length];omega
 have g0:0≤f+1:=by omega
 have g1:f+1≤19:=by omega
 have g2:(Lib.repeatL [47] (max (c - 7) 0).toNat).length+(cut [97,98,99,100,101,102,103,104,105,107,108,109,110,111,112,113,114,115,116] f (f+1)).length≤9223372036854775807:=by
  have:=cut_length [97,98,99,100,101,102,103,104,105,107,108,109,110,111,112,113,114,115,116] f (f+1)
  simp at this;omega
 have g3:f≤f+1:=by omega
 have hc11:¬ 11≤c:=by omega
 have e7:IntKind.i64.wrap (c - 7)=c - 7:=IntWalk.i64_in _ zqo
 have e8:IntKind.i64.wrap (f+1)=f+1:=IntWalk.i64_in _ zqo
 rw [e1,e2]
 go_enter Tryz.func173,Tryz.ntmps173
 go_wp2
 go_region_held3 (fun w'=>w'.cell? ⟨w.heap.size+1,0,none⟩=some (.int .i64 c)∧w'.cell? ⟨w.heap.size+1,1,none⟩=some (.int .i64 f))
  (first|(simp [bc];done)|go_keep)
  ((go_at_call 175;refine (repeat_any _ _ _ m0 m1 (by simp)).mono ?_;rintro e w' ⟨rfl,hb⟩;obtain ⟨bc,bf⟩:=bcell hb))
 go_wp2
 go_ret2
 exact Ret.mk' rfl zqb
theorem fr_symbol (c f:Int)(w:World)(hc:1≤c∧c≤14)(hf:0≤f∧f≤18) :
  Calls Tryz.prog 173 #[.agg #[],.agg #[.int .i64 c,.int .i64 f]] w (Ret (.tuple #[.string (bs (frS c f)),.bool (frOk c f)]) w):=by
 by_cases h:11≤c
 ·exact fr_symbol_low c f w h hc.2 hf.1 hf.2
 ·exact fr_symbol_high c f w hc.1 zqo hf.1 hf.2
def figS(f:Int):List UInt8:=if f≤9 then dig2 f.toNat else if f=10 then [120]else []
def figOk (f:Int):Bool:=decide (f≤10)
theorem figure_any (f:Int) (w:World) (hf:0≤f∧f≤18) :
  Calls Tryz.prog 185 #[.agg #[],.int .i64 f] w (Ret (.tuple #[.string (bs (figS f)),.bool (figOk f)]) w):=by
 obtain ⟨h0,h1⟩:=hf
 by_cases h9:f≤9
 ·have e1:figS f=dig2 f.toNat:=if_pos h9
  have e2:figOk f=true:=decide_eq_true zqo
  rw [e1,e2]
  go_enter Tryz.func185,Tryz.ntmps185
  go_wp2_with (go_at_call 15;refine (itoa_any _ _ zqo zqo).mono ?_;rintro e w' ⟨rfl,rfl⟩)
  go_ret2
  exact Ret.mk' rfl zqb
 ·by_cases h10:f=10
  ·subst h10
   go_enter Tryz.func185,Tryz.ntmps185
   go_wp2
   go_ret2
   exact Ret.mk' rfl zqb
  ·have e1:figS f=[]:=by unfold figS;rw [if_neg h9,if_neg h10]
   have e2:figOk f=false:=decide_eq_false zqo
   have hb:(f == 10)=false:=by simp;exact h10
   rw [e1,e2]
   go_enter Tryz.func185,Tryz.ntmps185
   go_wp2
   go_ret2
   exact Ret.mk' rfl zqb
def itS(c f:Int):List UInt8:=if c≤6 then figS f else if c=10 then [120]else dig2 c.toNat
def itOk(c f:Int):Bool:=if c≤6 then figOk f else f == 0
theorem it_symbol (c f:Int) (w:World) (hc:1≤c∧c≤14) (hf:0≤f∧f≤18) :
  Calls Tryz.prog 193 #[.agg #[],.agg #[.int .i64 c,.int .i64 f]] w (Ret (.tuple #[.string (bs (itS c f)),.bool (itOk c f)]) w):=by
 obtain ⟨hc0,hc1⟩:=hc
 have hp:∀ (w:World) (o:Obj),(partAt ⟨w.heap.size,0,none⟩ 0 0).run Tryz.prog ((w.alloc (.cells #[] 165)).alloc o)=.ok ⟨w.heap.size,0,none⟩ ((w.alloc (.cells #[] 165)).alloc o) :=
  fun w o=>run_partAt_zero _ _ _ _ (heap_alloc2 w _ o) (by kernel_rfl)
 by_cases h6:c≤6
 ·have e1:itS c f=figS f:=if_pos h6
  have e2:itOk c f=figOk f:=if_pos h6
  rw [e1,e2]
  go_enter Tryz.func193,Tryz.ntmps193
  go_wp2_with (go_at_call 185;refine (figure_any _ _ hf).mono ?_;rintro e w' ⟨rfl,hb⟩)
  go_ret2
  exact Ret.mk' rfl zqb
 ·have e2:itOk c f=(f == 0):=if_neg h6
  by_cases h10:c=10
  ·subst h10
   rw [e2]
   go_enter Tryz.func193,Tryz.ntmps193
   go_wp2
   go_quiet (fail)
   go_wp2
   go_ret2
   exact Ret.mk' rfl zqb
  ·have e1:itS c f=dig2 c.toNat:=by unfold itS;rw [if_neg h6,if_neg h10]
   have hb:(c == 10)=false:=by simp;exact h10
   rw [e1,e2]
   go_enter Tryz.func193,Tryz.ntmps193
   go_wp2
   go_quiet ((go_at_call 15;exact Calls.quiet_of_same (itoa_any _ _ zqo zqo)))
   go_wp2
   go_ret2
   exact Ret.mk' rfl zqb
def spS(c f:Int):List UInt8:=if c≤6 then figS f else []
def spOk(c f:Int):Bool:=if c≤6 then figOk f else false
theorem sp_symbol (c f:Int) (w:World) (hf:0≤f∧f≤18) :
  Calls Tryz.prog 201 #[.agg #[],.agg #[.int .i64 c,.int .i64 f]] w (Ret (.tuple #[.string (bs (spS c f)),.bool (spOk c f)]) w):=by
 have hp:∀ (w:World) (o:Obj),(partAt ⟨w.heap.size,0,none⟩ 0 0).run Tryz.prog ((w.alloc (.cells #[] 167)).alloc o)=.ok ⟨w.heap.size,0,none⟩ ((w.alloc (.cells #[] 167)).alloc o) :=
  fun w o=>run_partAt_zero _ _ _ _ (heap_alloc2 w _ o) (by kernel_rfl)
 by_cases h6:c≤6
 ·have e1:spS c f=figS f:=if_pos h6
  have e2:spOk c f=figOk f:=if_pos h6
  have h6':¬ 6 < c:=by omega
  rw [e1,e2]
  go_enter Tryz.func201,Tryz.ntmps201
  go_wp2_with (go_at_call 185;refine (figure_any _ _ hf).mono ?_;rintro e w' ⟨rfl,hb⟩)
  go_ret2
  exact Ret.mk' rfl zqb
 ·have e1:spS c f=[]:=if_neg h6
  have e2:spOk c f=false:=if_neg h6
  have h6':6 < c:=by omega
  rw [e1,e2]
  go_enter Tryz.func201,Tryz.ntmps201
  go_wp2
  go_ret2
  exact Ret.mk' rfl zqb
def small:List UInt8:=[97,98,99,100,101,102,103,104,105,107,108,109,110,111,112,113,114,115,116,118,120,121,122,38,57]
def geAt(c f:Int):Int:=(f-1) % 5*5+5-c
def geS (c f:Int):List UInt8 :=
 if 6<c∨10<f then [] else if c=6 then (if f=0 then [43] else cut [65,66,67,68,69,70,71,72,73,75] (f-1) f)
 else if f=0 then dig2 (6-c).toNat else Lib.repeatL (cut small (geAt c f) (geAt c f+1)) ((f+4)/5).toNat
def geOk (c f:Int):Bool:=decide (c≤6∧f≤10)
theorem ge_symbol_t (c f:Int) (w:World) (hc:1≤c∧c≤5) (hf:1≤f∧f≤10) :
  Calls Tryz.prog 208 #[.agg #[],.agg #[.int .i64 c,.int .i64 f]] w (Ret (.tuple #[.string (bs (geS c f)),.bool (geOk c f)]) w):=by
 obtain ⟨hc0,hc1⟩:=hc
 obtain ⟨hf0,hf1⟩:=hf
 have e1:geS c f=Lib.repeatL (cut small (geAt c f) (geAt c f+1)) ((f+4)/5).toNat:=by
  unfold geS;rw [if_neg (by omega),if_neg (by omega),if_neg (by omega)]
 have e2:geOk c f=true:=decide_eq_true zqo
 rw [e1,e2]
 unfold geAt small
 have hb1:(c == 6)=false:=by simp;omega
 have hb2:(f == 0)=false:=by simp;omega
 have g0:0≤(f - 1) % 5*5+5 - c:=by omega
 have g0':c≤(f - 1) % 5*5+5:=by omega
 have g2':(f - 1) % 5*5+5 - c≤24:=by omega
 have g1:(f - 1) % 5*5+5 - c≤(f - 1) % 5*5+5 - c+1:=by omega
 have g2:(f - 1) % 5*5+5 - c+1≤25:=by omega
 have g3:0≤f+4:=by omega
 have q0:0≤(f+4)/5:=by omega
 have q1:(f+4)/5≤100:=by omega
 have ql:=cut_length [97,98,99,100,101,102,103,104,105,107,108,109,110,111,112,113,114,115,116,118,120,121,122,38,57] ((f - 1) % 5*5+5 - c) ((f - 1) % 5*5+5 - c+1)
 have ql':(cut [97,98,99,100,101,102,103,104,105,107,108,109,110,111,112,113,114,115,116,118,120,121,122,38,57] ((f - 1) % 5*5+5 - c) ((f - 1) % 5*5+5 - c+1)).length≤100:=Nat.le_trans ql (by decide)
 clear ql
 have w1:IntKind.i64.wrap ((f - 1) % 5*5+5 - c+1)=(f - 1) % 5*5+5 - c+1:=IntWalk.i64_in _ zqo
 have w2:IntKind.i64.wrap (f+4)=f+4:=IntWalk.i64_in _ zqo
 have w3:IntKind.i64.wrap ((f+4).tdiv 5)=(f+4)/5:=by rw [Int.tdiv_eq_ediv_of_nonneg (by omega)];exact IntWalk.i64_in _ (by omega)
 go_enter Tryz.func208,Tryz.ntmps208
 go_wp2
 go_region_held3 (fun w'=>w'.cell? ⟨w.heap.size+1,0,none⟩=some (.int .i64 c)∧w'.cell? ⟨w.heap.size+1,1,none⟩=some (.int .i64 f))
  (first|(simp [bc];done)|go_keep)
  ((go_at_call 175;refine (repeat_any _ _ _ q0 q1 ql').mono ?_;rintro e w' ⟨rfl,hb⟩;obtain ⟨bc,bf⟩:=bcell hb))
 go_wp2
 go_ret2
 exact Ret.mk' rfl zqb
theorem ge_symbol (c f:Int) (w:World) (hc:1≤c∧c≤14) (hf:0≤f∧f≤18) :
  Calls Tryz.prog 208 #[.agg #[],.agg #[.int .i64 c,.int .i64 f]] w (Ret (.tuple #[.string (bs (geS c f)),.bool (geOk c f)]) w):=by
 obtain ⟨hc0,hc1⟩:=hc
 obtain ⟨hf0,hf1⟩:=hf
 by_cases hbad:6 < c∨10 < f
 ·have e1:geS c f=[]:=if_pos hbad
  have e2:geOk c f=false:=decide_eq_false zqo
  rw [e1,e2]
  by_cases h6:6 < c
  ·go_enter Tryz.func208,Tryz.ntmps208
   go_wp2
   go_ret2
   exact Ret.mk' rfl zqb
  ·have h10:10 < f:=by omega
   go_enter Tryz.func208,Tryz.ntmps208
   go_wp2
   go_ret2
   exact Ret.mk' rfl zqb
 ·have e2:geOk c f=true:=decide_eq_true zqo
  have k1:¬ 6 < c:=by omega
  have k2:¬ 10 < f:=by omega
  by_cases h6:c=6
  ·subst h6
   by_cases h0:f=0
   ·subst h0
    rw [e2]
    go_enter Tryz.func208,Tryz.ntmps208
    go_wp2
    go_ret2
    exact Ret.mk' rfl zqb
   ·have e1:geS 6 f=cut [65,66,67,68,69,70,71,72,73,75] (f - 1) f:=by unfold geS;rw [if_neg hbad,if_pos rfl,if_neg h0]
    have hb2:(f == 0)=false:=by simp;omega
    have g0:0≤f - 1:=by omega
    have g0':1≤f:=by omega
    have g1:f - 1≤f:=by omega
    have g2:f≤10:=by omega
    rw [e1,e2]
    go_enter Tryz.func208,Tryz.ntmps208
    go_wp2
    go_ret2
    exact Ret.mk' rfl zqb
  ·have hb1:(c == 6)=false:=by simp;omega
   by_cases h0:f=0
   ·subst h0
    have e1:geS c 0=dig2 (6 - c).toNat:=by unfold geS;rw [if_neg hbad,if_neg h6,if_pos rfl]
    rw [e1,e2]
    go_enter Tryz.func208,Tryz.ntmps208
    go_wp2_with (go_at_call 15;refine (itoa_any _ _ zqo zqo).mono ?_;rintro e w' ⟨rfl,rfl⟩)
    go_ret2
    exact Ret.mk' rfl zqb
   ·exact ge_symbol_t c f w ⟨hc0,by omega⟩ ⟨by omega,by omega⟩
end Go.Proofs.YtockempedekkkaaGreatDoor
