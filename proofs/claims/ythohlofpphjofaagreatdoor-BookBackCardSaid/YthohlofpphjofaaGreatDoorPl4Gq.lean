/- Symbol and Place of the program, in one system. -/
import Derived.Test.YthohlofpphjofaaGreatDoorE1Gq
import Derived.Shelf.Strings.OnBuilder
import Derived.Shelf.Small.Strs
import Derived.Shelf.Strings.BuilderK
import Derived.Shelf.Strconv.Itoa3
import Derived.Shelf.Strings.Shaped
import Derived.Shelf.Strings.SplitShaped
import Derived.Shelf.Strings.Repeat
import Derived.Shelf.Unicode.DecodeSlow
import Derived.Shelf.Slices.Clone
import Derived.Shelf.Slices.SearchI
import Derived.Shelf.SlicesE.Clone
import Derived.Test.YthohlofpphjofaaGreatDoorProg
import Derived.BigQuiet
import Derived.Deep.RegionHeld3
set_option maxHeartbeats 1600000
set_option maxRecDepth 100000
set_option linter.unusedVariables false
set_option linter.unusedSimpArgs false
namespace Go.Proofs.YthohlofpphjofaaGreatDoor
theorem Jp {p:Prop}(h:p:=by rw [bs_size];omega):p:=h
theorem sW {p:Prop}(h:p:=by simpa using hk):p:=h
section
variable {p:Prop}
theorem ae2(h:p:=by
 go_enter Tryz.func328,Tryz.ntmps328
 go_wp2
 exact pG):p:=h
theorem aeR(h:p:=by
 go_wp2_with (go_at_call 328;refine (QU _ _ hf).mono ?_;rintro e w' ⟨rfl,hb⟩)
 exact pG):p:=h
theorem aeP(h:p:=by
 go_wp2_with (go_at_call 108;refine (xR _ _ aj aj).mono ?_;rintro e w' ⟨rfl,rfl⟩)
 exact pG):p:=h
theorem MI(h:p:=by
 go_enter Tryz.func351,Tryz.ntmps351
 go_wp2
 exact pG):p:=h
theorem xE(h:p:=by
 go_wp2
 go_ret
 exact Ret.mk' rfl jD):p:=h
theorem adH(h:p:=by
 clear hnn hP hO
 go_enter Tryz.func95,Tryz.ntmps95
 go_wp2
 go_ret
 exact Ret.mk' rfl jD):p:=h
theorem UH(h:p:=by
 go_ret
 exact Ret.mk' (by rw [HE2.out];rfl) jD):p:=h
theorem FN(h:p:=by
 rw [kV h];rfl):p:=h
theorem Xf(h:p:=by
 rw [← add_field _ _ _ (by omega)];simp_all[mF]):p:=h
theorem afw(h:p:=by
 go_enter Tryz.func86,Tryz.ntmps86
 go_wp2
 go_ret
 exact⟨rfl,rfl⟩):p:=h
theorem Qw(h:p:=by
 rw [← add_field _ _ _ (by omega)];simp_all[kL]):p:=h
theorem Qv(h:p:=by
 go_enter Tryz.func50,Tryz.ntmps50
 go_wp2
 go_ret2
 exact⟨rfl,rfl⟩):p:=h
theorem Jw(h:p:=by
 go_wp2
 go_ret
 exact Ret.mk' (by rw [HE.out];rfl) jD):p:=h
theorem pG(h:p:=by
 go_ret2
 exact Ret.mk' rfl jD):p:=h
end
section
open Go.RowKit
def gG(x:Int):List Value:=[.int .i64 x]
def dA(x:Int×Int×Bool):List Value:=[.int .i64 x.1,.int .i64 x.2.1,.bool x.2.2]
def gJ (last:Int):List Int→Bool
 | []=>false
 | x::r=>decide (x≤last∨127<x)|| gJ x r
def uF (st:List Int)(x:Int×Int×Bool):Int:=(x.1+if 0<x.2.1 then st.getD (x.2.1.toNat-1) 0 else 0)+if x.2.2 then 12 else 0
def tH (st:List Int):List (Int×Int×Bool)→Int
 | []=>0
 | x::r=>if x.2.1<0∨(st.length:Int)<x.2.1 then 13 else if (x.1<0∨127<x.1)∨127<uF st x then 10 else tH st r
def gB (cs:List (Int×Int×Bool))(st:List Int):Int :=
 if 14<cs.length∨18<st.length then 2 else if cs.length=0 then 11 else if gJ 0 st=true then 11 else tH st cs
theorem P6 {last:Int} {st:List Int} {k:Nat} (h:k<st.length):gJ last (st.drop k)=(decide (st[k]≤last∨127<st[k])|| gJ st[k] (st.drop (k+1))):=by
 exact FN
theorem afQ {st:List Int} {cs:List (Int×Int×Bool)} {k:Nat} (h:k<cs.length) :
  tH st (cs.drop k)=if cs[k].2.1<0∨(st.length:Int)<cs[k].2.1 then 13 else if (cs[k].1<0∨127<cs[k].1)∨127<uF st cs[k]then 10 else tH st (cs.drop (k+1)):=by
 rw [kV h];rfl
theorem kE:∀ {st:List Int} {last:Int},0≤last→gJ last st=false→∀ k (h:k<st.length),1≤st[k]∧st[k]≤127:=by
 intro st
 induction st with
 | nil=>simp
 | cons x r ih =>
  intro last h0 hb k h
  unfold gJ at hb
  rw [AB] at hb
  have hx:=yK hb.1
  cases k with
  | zero=>grind
  | succ k=>simp only [LY];exact ih (by omega) hb.2 k uT
def gV (w:World)(B:Nat)(A1 A2:Option Addr)(cs:List (Int×Int×Bool))(st:List Int):Prop:=Rd w B 3 A1 (cs.map dA)∧Rd w B 1 A2 (st.map gG)
section
variable {w w':World} {B B':Nat} {A1 A2:Option Addr} {cs:List (Int×Int×Bool)} {st:List Int}
theorem gV.keep(h:gV w B A1 A2 cs st)(hk:∀ p:Addr,p.block<B→w'.cell? p=w.cell? p):gV w' B A1 A2 cs st:=⟨h.1.keep hk,h.2.keep hk⟩
theorem gV.more(h:gV w B A1 A2 cs st)(hB:B≤B'):gV w B' A1 A2 cs st:=⟨h.1.more hB,h.2.more hB⟩
theorem gV.below(h:gV w B A1 A2 cs st)(hb:Below B w w'):gV w' B A1 A2 cs st:=h.keep fun _ hp=>hb.cell hp
theorem gV.alloc (h:gV w B A1 A2 cs st)(hB:B≤w.heap.size)(o:Obj):gV (w.alloc o) B A1 A2 cs st:=⟨h.1.alloc hB o,h.2.alloc hB o⟩
theorem gV.step {k:Nat} (h:gV w B A1 A2 cs st) (hk:k<st.length):∃ ad,A2=some ad∧ad.block<B∧w.cell? (ad.add k)=some (.int .i64 st[k]):=by
 obtain ⟨ad,e,hb,hc⟩:=h.2.at_ (k:=k) sW
 refine ⟨ad,e,hb,?_⟩
 have:=hc 0 (.int .i64 st[k]) (by simp [gG])
 exact jy
theorem gV.aQ {k:Nat} (h:gV w B A1 A2 cs st) (hk:k<cs.length):∃ ad,A1=some ad∧ad.block<B∧w.cell? (ad.add (k*3))=some (.int .i64 cs[k].1)∧w.cell? ⟨(ad.add (k*3)).block,(ad.add (k*3)).off+1,none⟩=some (.int .i64 cs[k].2.1)∧w.cell? ⟨(ad.add (k*3)).block,(ad.add (k*3)).off+2,none⟩=some (.bool cs[k].2.2):=by
 obtain ⟨ad,e,hb,hc⟩:=h.1.at_ (k:=k) sW
 refine ⟨ad,e,hb,?_,?_,?_⟩
 ·have:=hc 0 (.int .i64 cs[k].1) (by simp [dA]);simpa using this
 ·rw [← add_field _ _ _ (by omega)];simp_all[dA]
 ·rw [← add_field _ _ _ (by omega)];simp_all[dA]
end
end
section
open Go.RowKit
abbrev Stp:=Int×Int×Int×Int×Int
def mF(x:Stp):List Value:=[.int .i64 x.1,.int .i64 x.2.1,.int .i64 x.2.2.1,.int .i64 x.2.2.2.1,.int .i64 x.2.2.2.2]
structure Ev where
 bar:Bool
 val:Int
 dot:Bool
 three:Bool
 tie:Bool
 stops:List Stp
def kL(e:Ev)(m:Option Addr×Nat):List Value:=[.bool e.bar,.int .i64 e.val,.bool e.dot,.bool e.three,.bool e.tie,.slice m.1 e.stops.length m.2]
structure aN where
 cs:List (Int×Int×Bool)
 st:List Int
 evs:List Ev
structure PM where
 A1:Option Addr
 A2:Option Addr
 A3:Option Addr
 c1:Nat
 c2:Nat
 c3:Nat
def eP (w:World)(B:Nat)(A:Option Addr)(l:List Stp):Prop:=Rd w B 5 A (l.map mF)
def oP (w:World)(B:Nat)(A:Option Addr)(evs:List Ev):Prop :=
 ∃ ms:List (Option Addr×Nat),ms.length=evs.length∧Rd w B 6 A (List.zipWith kL evs ms)∧∀ (k:Nat)(e:Ev)(m:Option Addr×Nat),evs[k]?=some e→ms[k]?=some m→eP w B m.1 e.stops
def oI(w:World)(B:Nat)(M:PM)(p:aN):Prop:=gV w B M.A1 M.A2 p.cs p.st∧oP w B M.A3 p.evs∧p.evs.length≤M.c3
def dL(M:PM)(p:aN):Value:=.agg #[.slice M.A1 p.cs.length M.c1,.slice M.A2 p.st.length M.c2,.slice M.A3 p.evs.length M.c3]
section
variable {w w':World} {B B':Nat} {A:Option Addr} {l:List Stp} {evs:List Ev} {M:PM} {p:aN}
theorem eP.keep(h:eP w B A l)(hk:∀ p:Addr,p.block<B→w'.cell? p=w.cell? p):eP w' B A l:=Rd.keep h hk
theorem eP.more(h:eP w B A l)(hB:B≤B'):eP w B' A l:=Rd.more h hB
theorem eP.below(h:eP w B A l)(hb:Below B w w'):eP w' B A l:=h.keep fun _ hp=>hb.cell hp
theorem oP.keep(h:oP w B A evs)(hk:∀ p:Addr,p.block<B→w'.cell? p=w.cell? p):oP w' B A evs:=by
 obtain⟨ms,h1,h2,h3⟩:=h
 exact⟨ms,h1,h2.keep hk,fun k e m he hm=>(h3 k e m he hm).keep hk⟩
theorem oP.more(h:oP w B A evs)(hB:B≤B'):oP w B' A evs:=by
 obtain⟨ms,h1,h2,h3⟩:=h
 exact⟨ms,h1,h2.more hB,fun k e m he hm=>(h3 k e m he hm).more hB⟩
theorem oP.below(h:oP w B A evs)(hb:Below B w w'):oP w' B A evs:=h.keep fun _ hp=>hb.cell hp
theorem oI.keep(h:oI w B M p)(hk:∀ p:Addr,p.block<B→w'.cell? p=w.cell? p):oI w' B M p:=⟨h.1.keep hk,h.2.1.keep hk,h.2.2⟩
theorem oI.more(h:oI w B M p)(hB:B≤B'):oI w B' M p:=⟨h.1.more hB,h.2.1.more hB,h.2.2⟩
theorem oI.below(h:oI w B M p)(hb:Below B w w'):oI w' B M p:=h.keep fun _ hp=>hb.cell hp
theorem oI.after(h:oI w w.heap.size M p)(hb:Below w.heap.size w w'):oI w' w'.heap.size M p:=(h.below hb).more hb.size
theorem eP.after(h:eP w w.heap.size A l)(hb:Below w.heap.size w w'):eP w' w'.heap.size A l:=(h.below hb).more hb.size
theorem eP.stp {k:Nat} (h:eP w B A l) (hk:k<l.length):∃ ad,A=some ad∧ad.block<B∧w.cell? (ad.add (k*5))=some (.int .i64 l[k].1) ∧
  w.cell? ⟨(ad.add (k*5)).block,(ad.add (k*5)).off+1,none⟩=some (.int .i64 l[k].2.1)∧w.cell? ⟨(ad.add (k*5)).block,(ad.add (k*5)).off+2,none⟩=some (.int .i64 l[k].2.2.1) ∧
  w.cell? ⟨(ad.add (k*5)).block,(ad.add (k*5)).off+3,none⟩=some (.int .i64 l[k].2.2.2.1)∧w.cell? ⟨(ad.add (k*5)).block,(ad.add (k*5)).off+4,none⟩=some (.int .i64 l[k].2.2.2.2):=by
 obtain ⟨ad,e,hb,hc⟩:=Rd.at_ (k:=k) h sW
 refine ⟨ad,e,hb,?_,?_,?_,?_,?_⟩
 ·have:=hc 0 (.int .i64 l[k].1) (by simp [mF]);simpa using this
 ·exact Xf
 ·exact Xf
 ·exact Xf
 ·exact Xf
theorem oP.ev {k:Nat} (h:oP w B A evs) (hk:k<evs.length):∃ (ad:Addr) (S:Option Addr) (c:Nat),A=some ad∧ad.block<B∧w.cell? (ad.add (k*6))=some (.bool evs[k].bar) ∧
  w.cell? ⟨(ad.add (k*6)).block,(ad.add (k*6)).off+1,none⟩=some (.int .i64 evs[k].val)∧w.cell? ⟨(ad.add (k*6)).block,(ad.add (k*6)).off+2,none⟩=some (.bool evs[k].dot) ∧
  w.cell? ⟨(ad.add (k*6)).block,(ad.add (k*6)).off+3,none⟩=some (.bool evs[k].three)∧w.cell? ⟨(ad.add (k*6)).block,(ad.add (k*6)).off+4,none⟩=some (.bool evs[k].tie) ∧
  w.cell? ⟨(ad.add (k*6)).block,(ad.add (k*6)).off+5,none⟩=some (.slice S evs[k].stops.length c)∧eP w B S evs[k].stops:=by
 obtain ⟨ms,h1,h2,h3⟩:=h
 obtain ⟨ad,e,hb,hc⟩:=Rd.at_ (k:=k) h2 (by simp;omega)
 have hm:k<ms.length:=by omega
 have hz:(List.zipWith kL evs ms)[k]'(by simp;omega)=kL evs[k] ms[k]:=List.getElem_zipWith
 rw [hz] at hc
 refine ⟨ad,ms[k].1,ms[k].2,e,hb,?_,?_,?_,?_,?_,?_,h3 k _ _ (aB hk) (aB hm)⟩
 ·have:=hc 0 (.bool evs[k].bar) (by simp [kL]);simpa using this
 ·exact Qw
 ·exact Qw
 ·exact Qw
 ·exact Qw
 ·exact Qw
end
def QB (p:aN):Bool:=decide (64<p.cs.length)|| (decide (64<p.st.length)|| (decide (420<p.evs.length)|| p.evs.any fun e=>decide (20<e.stops.length)))
theorem ajo {α:Type} {f:α→Bool} {l:List α} {k:Nat} (h:k<l.length):(l.drop k).any f=(f l[k]|| (l.drop (k+1)).any f):=by
 grind[kV]
def Vm(e:Ev)(S:Option Addr)(c:Nat):Value:=.agg #[.bool e.bar,.int .i64 e.val,.bool e.dot,.bool e.three,.bool e.tie,.slice S e.stops.length c]
def TM(x:Stp):Value:=.agg #[.int .i64 x.1,.int .i64 x.2.1,.int .i64 x.2.2.1,.int .i64 x.2.2.2.1,.int .i64 x.2.2.2.2]
def jl(e:Ev):Bool:=e.stops.length == 0 && !e.tie
def hasB(c:Int)(l:List Stp):Bool:=l.any fun x=>x.1 == c
def nK(c:Int):Nat→List Ev→Nat
 | 0,_=>0
 | _+1,[]=>0
 | k+1,e::r=>if(jl e|| hasB c e.stops)=true then 0 else nK c k r+1
def ah (evs:List Ev)(i c:Int):Nat:=if i<0∨(evs.length:Int)≤i then 0 else nK c 15 (evs.drop (i.toNat+1))
theorem PS(c:Int)(k:Nat):nK c k []=0:=by cases k<;>rfl
theorem ahg(c:Int):∀ (k:Nat)(l:List Ev),nK c k l≤k:=by
 intro k
 induction k with
 | zero=>intro l;simp [nK]
 | succ k ih =>
  intro l
  cases l<;>grind[nK]
theorem tX(evs:List Ev)(i c:Int):ah evs i c≤15:=by
 grind[ah,ahg]
theorem IG {c:Int} {l:List Ev} {k j:Nat} (hj:j<l.length)(h:(jl l[j]|| hasB c l[j].stops)=true):nK c k (l.drop j)=0:=by
 rw [kV hj]
 cases k<;>simp_all[nK]
theorem Zc {c:Int} {l:List Ev} {k j:Nat} (hj:j<l.length) (h:(jl l[j]|| hasB c l[j].stops)=false):nK c (k+1) (l.drop j)=nK c k (l.drop (j+1))+1:=by
 grind[kV,nK]
end
end Go.Proofs.YthohlofpphjofaaGreatDoor
namespace Go.Proofs
open Go.Shelf
def Tryz.lays137_ren:Go.Shelf.Ren:=⟨fun|137=>235|217=>251|266=>272|n=>n,fun|9=>9|5=>5|3=>3|n=>n,fun|n=>n⟩
theorem Tryz.lays137:Go.Proofs.Lays.n137 Tryz.prog Tryz.lays137_ren:={
 mixed:=by kernel_rfl
 f137:=Tryz.func235.trans (congrArg some (by kernel_rfl))
 f217:=Tryz.func251.trans (congrArg some (by kernel_rfl))
 f266:=Tryz.func272.trans (congrArg some (by kernel_rfl))
 t3:=Tryz.underlying3
 a3:=Tryz.isAgg3
 z3:=Tryz.sizeOf3
 v3:=Tryz.zeroValue3
 t5:=Tryz.underlying5
 a5:=Tryz.isAgg5
 z5:=Tryz.sizeOf5
 v5:=Tryz.zeroValue5
 t9:=Tryz.underlying9
 a9:=Tryz.isAgg9
 z9:=Tryz.sizeOf9
 v9:=Tryz.zeroValue9 }
open Go.RowKit in
theorem Tryz.strings_IndexByte (s:ByteArray)(c:Int)(w:World) :
  Calls Tryz.prog 235 #[.string s,.int .u8 c] w fun e w'=>e=.returned (.int .i64 (Lib.indexByte s.data.toList c.toNat.toUInt8))∧w'=w:=Any.strings_IndexByte Tryz.lays137 s c w
def Tryz.laysM246_ren:Go.Shelf.Ren:=⟨fun|246=>231|283=>260|284=>261|285=>262|286=>263|129=>276|317=>275|318=>277|319=>278|320=>279|337=>290|338=>291|n=>n,fun|2=>2|3=>3|9=>9|4=>4|171=>348|0=>0|53=>349|37=>101|5=>5|173=>352|212=>371|51=>367|20=>20|213=>372|46=>346|232=>388|233=>389|n=>n,fun|17=>5|18=>6|19=>7|n=>n⟩
def Tryz.laysM243_ren:Go.Shelf.Ren:=⟨fun|243=>174|246=>231|283=>260|284=>261|285=>262|286=>263|129=>276|317=>275|318=>277|319=>278|320=>279|337=>290|338=>291|n=>n,fun|3=>3|9=>9|2=>2|4=>4|171=>348|0=>0|53=>349|37=>101|5=>5|173=>352|212=>371|51=>367|20=>20|213=>372|46=>346|232=>388|233=>389|n=>n,fun|17=>5|18=>6|19=>7|n=>n⟩
def Tryz.laysM171_ren:Go.Shelf.Ren:=⟨fun|171=>108|243=>174|246=>231|283=>260|284=>261|285=>262|286=>263|129=>276|317=>275|318=>277|319=>278|320=>279|337=>290|338=>291|n=>n,fun|3=>3|9=>9|2=>2|4=>4|171=>348|0=>0|53=>349|37=>101|5=>5|173=>352|212=>371|51=>367|20=>20|213=>372|46=>346|232=>388|233=>389|n=>n,fun|17=>5|18=>6|19=>7|n=>n⟩
theorem Tryz.laysM171:Go.Proofs.LaysM.n171 Tryz.prog Tryz.laysM171_ren:={
 mixed:=by kernel_rfl
 f129:=Tryz.func276.trans (congrArg some (by kernel_rfl))
 f171:=Tryz.func108.trans (congrArg some (by kernel_rfl))
 f243:=Tryz.func174.trans (congrArg some (by kernel_rfl))
 f246:=Tryz.func231.trans (congrArg some (by kernel_rfl))
 f283:=Tryz.func260.trans (congrArg some (by kernel_rfl))
 f284:=Tryz.func261.trans (congrArg some (by kernel_rfl))
 f285:=Tryz.func262.trans (congrArg some (by kernel_rfl))
 f286:=Tryz.func263.trans (congrArg some (by kernel_rfl))
 f317:=Tryz.func275.trans (congrArg some (by kernel_rfl))
 f318:=Tryz.func277.trans (congrArg some (by kernel_rfl))
 f319:=Tryz.func278.trans (congrArg some (by kernel_rfl))
 f320:=Tryz.func279.trans (congrArg some (by kernel_rfl))
 f337:=Tryz.func290.trans (congrArg some (by kernel_rfl))
 f338:=Tryz.func291.trans (congrArg some (by kernel_rfl))
 t0:=Tryz.underlying0
 a0:=Tryz.isAgg0
 z0:=Tryz.sizeOf0
 v0:=Tryz.zeroValue0
 t2:=Tryz.underlying2
 a2:=Tryz.isAgg2
 z2:=Tryz.sizeOf2
 v2:=Tryz.zeroValue2
 t3:=Tryz.underlying3
 a3:=Tryz.isAgg3
 z3:=Tryz.sizeOf3
 v3:=Tryz.zeroValue3
 t4:=Tryz.underlying4
 a4:=Tryz.isAgg4
 z4:=Tryz.sizeOf4
 v4:=Tryz.zeroValue4
 t5:=Tryz.underlying5
 a5:=Tryz.isAgg5
 z5:=Tryz.sizeOf5
 v5:=Tryz.zeroValue5
 t9:=Tryz.underlying9
 a9:=Tryz.isAgg9
 z9:=Tryz.sizeOf9
 v9:=Tryz.zeroValue9
 t20:=Tryz.underlying20
 a20:=Tryz.isAgg20
 z20:=Tryz.sizeOf20
 v20:=Tryz.zeroValue20
 t37:=Tryz.underlying101
 a37:=Tryz.isAgg101
 z37:=Tryz.sizeOf101
 v37:=Tryz.zeroValue101
 t46:=Tryz.underlying346
 a46:=Tryz.isAgg346
 z46:=Tryz.sizeOf346
 v46:=Tryz.zeroValue346
 t51:=Tryz.underlying367
 a51:=Tryz.isAgg367
 z51:=Tryz.sizeOf367
 v51:=Tryz.zeroValue367
 t53:=Tryz.underlying349
 a53:=Tryz.isAgg349
 z53:=Tryz.sizeOf349
 v53:=Tryz.zeroValue349
 t171:=Tryz.underlying348
 a171:=Tryz.isAgg348
 z171:=Tryz.sizeOf348
 v171:=Tryz.zeroValue348
 t173:=Tryz.underlying352
 a173:=Tryz.isAgg352
 z173:=Tryz.sizeOf352
 v173:=Tryz.zeroValue352
 t212:=Tryz.underlying371
 a212:=Tryz.isAgg371
 z212:=Tryz.sizeOf371
 v212:=Tryz.zeroValue371
 t213:=Tryz.underlying372
 a213:=Tryz.isAgg372
 z213:=Tryz.sizeOf372
 t232:=Tryz.underlying388
 a232:=Tryz.isAgg388
 z232:=Tryz.sizeOf388
 v232:=Tryz.zeroValue388
 t233:=Tryz.underlying389
 a233:=Tryz.isAgg389
 z233:=Tryz.sizeOf389
 v233:=Tryz.zeroValue389
 g17:=by kernel_rfl
 g18:=by kernel_rfl
 g19:=by kernel_rfl
 i0:=by kernel_rfl
 i2:=by kernel_rfl
 i3:=by kernel_rfl
 i4:=by kernel_rfl
 i5:=by kernel_rfl
 i9:=by kernel_rfl
 i20:=by kernel_rfl
 i37:=by kernel_rfl
 i46:=by kernel_rfl
 i51:=by kernel_rfl
 i53:=by kernel_rfl
 i171:=by kernel_rfl
 i173:=by kernel_rfl
 i212:=by kernel_rfl
 i232:=by kernel_rfl
 i233:=by kernel_rfl
 m17:=by kernel_rfl
 m18:=by kernel_rfl
 m19:=by kernel_rfl }
open Go.RowKit Go.Sort Go.Lib in
theorem Tryz.strconv_Itoa (n:Int) (h0:-9223372036854775808≤n) (h1:n≤9223372036854775807) (w:World) (htab:Lib.TabIs Tryz.prog w "internal/strconv.uint64pow10" .u64 Lib.pow10Tab) :
  Calls Tryz.prog 108 #[.int .i64 n] w fun e w'=>e=.returned (.string ⟨(Lib.itoa n).toArray⟩)∧∃ k os,w'=grow (w.drewN k) os:=Any.strconv_Itoa Tryz.laysM171 n h0 h1 w htab
def Tryz.lays171_ren:Go.Shelf.Ren:=⟨fun|171=>108|243=>174|246=>231|283=>260|284=>261|285=>262|286=>263|129=>276|317=>275|318=>277|319=>278|320=>279|337=>290|338=>291|n=>n,fun|3=>3|9=>9|2=>2|4=>4|171=>348|0=>0|53=>349|37=>101|5=>5|173=>352|212=>371|51=>367|20=>20|213=>372|46=>346|232=>388|233=>389|n=>n,fun|17=>5|18=>6|19=>7|n=>n⟩
theorem Tryz.lays171:Go.Proofs.Lays.n171 Tryz.prog Tryz.lays171_ren:={
 mixed:=by kernel_rfl
 f129:=Tryz.func276.trans (congrArg some (by kernel_rfl))
 f171:=Tryz.func108.trans (congrArg some (by kernel_rfl))
 f243:=Tryz.func174.trans (congrArg some (by kernel_rfl))
 f246:=Tryz.func231.trans (congrArg some (by kernel_rfl))
 f283:=Tryz.func260.trans (congrArg some (by kernel_rfl))
 f284:=Tryz.func261.trans (congrArg some (by kernel_rfl))
 f285:=Tryz.func262.trans (congrArg some (by kernel_rfl))
 f286:=Tryz.func263.trans (congrArg some (by kernel_rfl))
 f317:=Tryz.func275.trans (congrArg some (by kernel_rfl))
 f318:=Tryz.func277.trans (congrArg some (by kernel_rfl))
 f319:=Tryz.func278.trans (congrArg some (by kernel_rfl))
 f320:=Tryz.func279.trans (congrArg some (by kernel_rfl))
 f337:=Tryz.func290.trans (congrArg some (by kernel_rfl))
 f338:=Tryz.func291.trans (congrArg some (by kernel_rfl))
 t0:=Tryz.underlying0
 a0:=Tryz.isAgg0
 z0:=Tryz.sizeOf0
 v0:=Tryz.zeroValue0
 t2:=Tryz.underlying2
 a2:=Tryz.isAgg2
 z2:=Tryz.sizeOf2
 v2:=Tryz.zeroValue2
 t3:=Tryz.underlying3
 a3:=Tryz.isAgg3
 z3:=Tryz.sizeOf3
 v3:=Tryz.zeroValue3
 t4:=Tryz.underlying4
 a4:=Tryz.isAgg4
 z4:=Tryz.sizeOf4
 v4:=Tryz.zeroValue4
 t5:=Tryz.underlying5
 a5:=Tryz.isAgg5
 z5:=Tryz.sizeOf5
 v5:=Tryz.zeroValue5
 t9:=Tryz.underlying9
 a9:=Tryz.isAgg9
 z9:=Tryz.sizeOf9
 v9:=Tryz.zeroValue9
 t20:=Tryz.underlying20
 a20:=Tryz.isAgg20
 z20:=Tryz.sizeOf20
 v20:=Tryz.zeroValue20
 t37:=Tryz.underlying101
 a37:=Tryz.isAgg101
 z37:=Tryz.sizeOf101
 v37:=Tryz.zeroValue101
 t46:=Tryz.underlying346
 a46:=Tryz.isAgg346
 z46:=Tryz.sizeOf346
 v46:=Tryz.zeroValue346
 t51:=Tryz.underlying367
 a51:=Tryz.isAgg367
 z51:=Tryz.sizeOf367
 v51:=Tryz.zeroValue367
 t53:=Tryz.underlying349
 a53:=Tryz.isAgg349
 z53:=Tryz.sizeOf349
 v53:=Tryz.zeroValue349
 t171:=Tryz.underlying348
 a171:=Tryz.isAgg348
 z171:=Tryz.sizeOf348
 v171:=Tryz.zeroValue348
 t173:=Tryz.underlying352
 a173:=Tryz.isAgg352
 z173:=Tryz.sizeOf352
 v173:=Tryz.zeroValue352
 t212:=Tryz.underlying371
 a212:=Tryz.isAgg371
 z212:=Tryz.sizeOf371
 v212:=Tryz.zeroValue371
 t213:=Tryz.underlying372
 a213:=Tryz.isAgg372
 z213:=Tryz.sizeOf372
 t232:=Tryz.underlying388
 a232:=Tryz.isAgg388
 z232:=Tryz.sizeOf388
 v232:=Tryz.zeroValue388
 t233:=Tryz.underlying389
 a233:=Tryz.isAgg389
 z233:=Tryz.sizeOf389
 v233:=Tryz.zeroValue389
 g17:=by kernel_rfl
 g18:=by kernel_rfl
 g19:=by kernel_rfl }
open Go.RowKit Go.Sort Go.Lib in
theorem Tryz.strconv_Itoa_small (i:Nat) (hi:i<100) (w:World) :
  Calls Tryz.prog 108 #[.int .i64 i] w fun e w'=>e=.returned (.string ⟨(Lib.decDigits i).toArray⟩)∧w'=w:=Any.strconv_Itoa_small Tryz.lays171 i hi w
def Tryz.lays219_ren:Go.Shelf.Ren:=⟨fun|219=>216|217=>251|225=>252|224=>253|267=>254|266=>272|314=>273|n=>n,fun|9=>9|3=>3|4=>4|5=>5|46=>346|146=>368|51=>367|n=>n,fun|1=>2|n=>n⟩
def Tryz.lays145_ren:Go.Shelf.Ren:=⟨fun|145=>218|220=>255|219=>216|217=>251|225=>252|224=>253|267=>254|266=>272|314=>273|n=>n,fun|9=>9|4=>4|59=>312|3=>3|5=>5|46=>346|146=>368|51=>367|n=>n,fun|1=>2|n=>n⟩
theorem Tryz.lays145:Go.Proofs.Lays.n145 Tryz.prog Tryz.lays145_ren:={
 mixed:=by kernel_rfl
 f145:=Tryz.func218.trans (congrArg some (by kernel_rfl))
 f217:=Tryz.func251.trans (congrArg some (by kernel_rfl))
 f219:=Tryz.func216.trans (congrArg some (by kernel_rfl))
 f220:=Tryz.func255.trans (congrArg some (by kernel_rfl))
 f224:=Tryz.func253.trans (congrArg some (by kernel_rfl))
 f225:=Tryz.func252.trans (congrArg some (by kernel_rfl))
 f266:=Tryz.func272.trans (congrArg some (by kernel_rfl))
 f267:=Tryz.func254.trans (congrArg some (by kernel_rfl))
 f314:=Tryz.func273.trans (congrArg some (by kernel_rfl))
 t3:=Tryz.underlying3
 a3:=Tryz.isAgg3
 z3:=Tryz.sizeOf3
 v3:=Tryz.zeroValue3
 t4:=Tryz.underlying4
 a4:=Tryz.isAgg4
 z4:=Tryz.sizeOf4
 v4:=Tryz.zeroValue4
 t5:=Tryz.underlying5
 a5:=Tryz.isAgg5
 z5:=Tryz.sizeOf5
 v5:=Tryz.zeroValue5
 t9:=Tryz.underlying9
 a9:=Tryz.isAgg9
 z9:=Tryz.sizeOf9
 v9:=Tryz.zeroValue9
 t46:=Tryz.underlying346
 a46:=Tryz.isAgg346
 z46:=Tryz.sizeOf346
 v46:=Tryz.zeroValue346
 t51:=Tryz.underlying367
 a51:=Tryz.isAgg367
 z51:=Tryz.sizeOf367
 v51:=Tryz.zeroValue367
 t59:=Tryz.underlying312
 a59:=Tryz.isAgg312
 z59:=Tryz.sizeOf312
 v59:=Tryz.zeroValue312
 t146:=Tryz.underlying368
 a146:=Tryz.isAgg368
 z146:=Tryz.sizeOf368
 v146:=Tryz.zeroValue368
 g1:=by kernel_rfl }
open Go.RowKit Go.Lib in
theorem Tryz.strings_Cut (s sep:ByteArray) (m:Int) (w:World) (hs:s.size<4294967281) (hm:w.cell? ⟨2,0,none⟩=some (.int .i64 m)) :
  Calls Tryz.prog 218 #[.string s,.string sep] w fun e w'=>e=.returned (.tuple #[.string ⟨(Lib.cut s.data.toList sep.data.toList).1.toArray⟩,.string ⟨(Lib.cut s.data.toList sep.data.toList).2.1.toArray⟩,.bool (Lib.cut s.data.toList sep.data.toList).2.2])∧∃ n,w'=w.drewN n:=Any.strings_Cut Tryz.lays145 s sep m w hs hm
def Tryz.lays206_ren:Go.Shelf.Ren:=⟨fun|206=>217|n=>n,fun|9=>9|4=>4|3=>3|n=>n,fun|n=>n⟩
theorem Tryz.lays206:Go.Proofs.Lays.n206 Tryz.prog Tryz.lays206_ren:={
 mixed:=by kernel_rfl
 f206:=Tryz.func217.trans (congrArg some (by kernel_rfl))
 t3:=Tryz.underlying3
 a3:=Tryz.isAgg3
 z3:=Tryz.sizeOf3
 v3:=Tryz.zeroValue3
 t4:=Tryz.underlying4
 a4:=Tryz.isAgg4
 z4:=Tryz.sizeOf4
 v4:=Tryz.zeroValue4
 t9:=Tryz.underlying9
 a9:=Tryz.isAgg9
 z9:=Tryz.sizeOf9
 v9:=Tryz.zeroValue9 }
open Go.RowKit Go.Lib in
theorem Tryz.stringslite_HasPrefix (s p:ByteArray)(w:World) :
  Calls Tryz.prog 217 #[.string s,.string p] w fun e w'=>e=.returned (.bool (Lib.hasPrefix s.data.toList p.data.toList))∧w'=w:=Any.stringslite_HasPrefix Tryz.lays206 s p w
def Tryz.lays99_ren:Go.Shelf.Ren:=⟨fun|99=>256|206=>217|n=>n,fun|9=>9|4=>4|3=>3|n=>n,fun|n=>n⟩
theorem Tryz.lays99:Go.Proofs.Lays.n99 Tryz.prog Tryz.lays99_ren:={
 mixed:=by kernel_rfl
 f99:=Tryz.func256.trans (congrArg some (by kernel_rfl))
 f206:=Tryz.func217.trans (congrArg some (by kernel_rfl))
 t3:=Tryz.underlying3
 a3:=Tryz.isAgg3
 z3:=Tryz.sizeOf3
 v3:=Tryz.zeroValue3
 t4:=Tryz.underlying4
 a4:=Tryz.isAgg4
 z4:=Tryz.sizeOf4
 v4:=Tryz.zeroValue4
 t9:=Tryz.underlying9
 a9:=Tryz.isAgg9
 z9:=Tryz.sizeOf9
 v9:=Tryz.zeroValue9 }
open Go.RowKit Go.Lib in
theorem Tryz.strings_HasPrefix (s p:ByteArray)(w:World) :
  Calls Tryz.prog 256 #[.string s,.string p] w fun e w'=>e=.returned (.bool (Lib.hasPrefix s.data.toList p.data.toList))∧w'=w:=Any.strings_HasPrefix Tryz.lays99 s p w
def Tryz.lays207_ren:Go.Shelf.Ren:=⟨fun|207=>123|n=>n,fun|9=>9|4=>4|3=>3|n=>n,fun|n=>n⟩
theorem Tryz.lays207:Go.Proofs.Lays.n207 Tryz.prog Tryz.lays207_ren:={
 mixed:=by kernel_rfl
 f207:=Tryz.func123.trans (congrArg some (by kernel_rfl))
 t3:=Tryz.underlying3
 a3:=Tryz.isAgg3
 z3:=Tryz.sizeOf3
 v3:=Tryz.zeroValue3
 t4:=Tryz.underlying4
 a4:=Tryz.isAgg4
 z4:=Tryz.sizeOf4
 v4:=Tryz.zeroValue4
 t9:=Tryz.underlying9
 a9:=Tryz.isAgg9
 z9:=Tryz.sizeOf9
 v9:=Tryz.zeroValue9 }
open Go.RowKit Go.Lib in
theorem Tryz.stringslite_HasSuffix (s p:ByteArray)(w:World)(hs:s.size≤9223372036854775807) :
  Calls Tryz.prog 123 #[.string s,.string p] w fun e w'=>e=.returned (.bool (Lib.hasSuffix s.data.toList p.data.toList))∧w'=w:=Any.stringslite_HasSuffix Tryz.lays207 s p w hs
def Tryz.lays221_ren:Go.Shelf.Ren:=⟨fun|221=>88|268=>154|138=>155|143=>156|195=>213|197=>214|218=>215|219=>216|260=>250|217=>251|225=>252|224=>253|267=>254|266=>272|314=>273|n=>n,fun|9=>9|3=>3|31=>39|4=>4|0=>0|105=>309|21=>21|5=>5|46=>346|119=>363|139=>366|138=>365|146=>368|51=>367|n=>n,fun|1=>2|3=>3|4=>4|n=>n⟩
def Tryz.lays146_ren:Go.Shelf.Ren:=⟨fun|146=>38|221=>88|268=>154|138=>155|143=>156|195=>213|197=>214|218=>215|219=>216|260=>250|217=>251|225=>252|224=>253|267=>254|266=>272|314=>273|n=>n,fun|9=>9|31=>39|3=>3|4=>4|0=>0|105=>309|21=>21|5=>5|46=>346|119=>363|139=>366|138=>365|146=>368|51=>367|n=>n,fun|1=>2|3=>3|4=>4|n=>n⟩
theorem Tryz.lays146:Go.Proofs.Lays.n146 Tryz.prog Tryz.lays146_ren:={
 mixed:=by kernel_rfl
 f138:=Tryz.func155.trans (congrArg some (by kernel_rfl))
 f143:=Tryz.func156.trans (congrArg some (by kernel_rfl))
 f146:=Tryz.func38.trans (congrArg some (by kernel_rfl))
 f195:=Tryz.func213.trans (congrArg some (by kernel_rfl))
 f197:=Tryz.func214.trans (congrArg some (by kernel_rfl))
 f217:=Tryz.func251.trans (congrArg some (by kernel_rfl))
 f218:=Tryz.func215.trans (congrArg some (by kernel_rfl))
 f219:=Tryz.func216.trans (congrArg some (by kernel_rfl))
 f221:=Tryz.func88.trans (congrArg some (by kernel_rfl))
 f224:=Tryz.func253.trans (congrArg some (by kernel_rfl))
 f225:=Tryz.func252.trans (congrArg some (by kernel_rfl))
 f260:=Tryz.func250.trans (congrArg some (by kernel_rfl))
 f266:=Tryz.func272.trans (congrArg some (by kernel_rfl))
 f267:=Tryz.func254.trans (congrArg some (by kernel_rfl))
 f268:=Tryz.func154.trans (congrArg some (by kernel_rfl))
 f314:=Tryz.func273.trans (congrArg some (by kernel_rfl))
 t0:=Tryz.underlying0
 a0:=Tryz.isAgg0
 z0:=Tryz.sizeOf0
 v0:=Tryz.zeroValue0
 t3:=Tryz.underlying3
 a3:=Tryz.isAgg3
 z3:=Tryz.sizeOf3
 v3:=Tryz.zeroValue3
 t4:=Tryz.underlying4
 a4:=Tryz.isAgg4
 z4:=Tryz.sizeOf4
 v4:=Tryz.zeroValue4
 t5:=Tryz.underlying5
 a5:=Tryz.isAgg5
 z5:=Tryz.sizeOf5
 v5:=Tryz.zeroValue5
 t9:=Tryz.underlying9
 a9:=Tryz.isAgg9
 z9:=Tryz.sizeOf9
 v9:=Tryz.zeroValue9
 t21:=Tryz.underlying21
 a21:=Tryz.isAgg21
 z21:=Tryz.sizeOf21
 v21:=Tryz.zeroValue21
 t31:=Tryz.underlying39
 a31:=Tryz.isAgg39
 z31:=Tryz.sizeOf39
 v31:=Tryz.zeroValue39
 t46:=Tryz.underlying346
 a46:=Tryz.isAgg346
 z46:=Tryz.sizeOf346
 v46:=Tryz.zeroValue346
 t51:=Tryz.underlying367
 a51:=Tryz.isAgg367
 z51:=Tryz.sizeOf367
 v51:=Tryz.zeroValue367
 t105:=Tryz.underlying309
 a105:=Tryz.isAgg309
 z105:=Tryz.sizeOf309
 v105:=Tryz.zeroValue309
 t119:=Tryz.underlying363
 a119:=Tryz.isAgg363
 z119:=Tryz.sizeOf363
 t138:=Tryz.underlying365
 a138:=Tryz.isAgg365
 z138:=Tryz.sizeOf365
 v138:=Tryz.zeroValue365
 t139:=Tryz.underlying366
 a139:=Tryz.isAgg366
 z139:=Tryz.sizeOf366
 v139:=Tryz.zeroValue366
 t146:=Tryz.underlying368
 a146:=Tryz.isAgg368
 z146:=Tryz.sizeOf368
 v146:=Tryz.zeroValue368
 g1:=by kernel_rfl
 g3:=by kernel_rfl
 g4:=by kernel_rfl }
open Go.RowKit Go.Lib in
theorem Tryz.strings_Split (s sep:ByteArray) (m:Int) (w:World) (hs:s.size<4294967281) (hm:w.cell? ⟨2,0,none⟩=some (.int .i64 m)) (h1:1≤sep.size) :
  Calls Tryz.prog 38 #[.string s,.string sep] w fun e w' =>
   e=.returned (.slice (some ⟨w.heap.size,0,none⟩) (Lib.countB s sep+1) (Lib.countB s sep+1))∧w'=w.alloc (.cells ((Lib.splitB sep 0 (Lib.countB s sep) s).map Value.string).toArray 9):=Any.strings_Split Tryz.lays146 (by kernel_rfl) s sep m w hs hm h1
def Tryz.lays105_ren:Go.Shelf.Ren:=⟨fun|105=>323|212=>324|99=>256|165=>176|166=>53|170=>325|169=>55|263=>326|264=>327|206=>217|240=>109|241=>232|276=>175|277=>264|n=>n,fun|9=>9|3=>3|4=>4|20=>20|0=>0|46=>346|109=>407|5=>5|72=>103|76=>106|51=>367|146=>368|53=>349|148=>410|70=>100|37=>101|75=>105|127=>191|164=>263|80=>81|n=>n,fun|n=>n⟩
theorem Tryz.lays105:Go.Proofs.Lays.n105 Tryz.prog Tryz.lays105_ren:={
 mixed:=by kernel_rfl
 f99:=Tryz.func256.trans (congrArg some (by kernel_rfl))
 f105:=Tryz.func323.trans (congrArg some (by kernel_rfl))
 f165:=Tryz.func176.trans (congrArg some (by kernel_rfl))
 f166:=Tryz.func53.trans (congrArg some (by kernel_rfl))
 f169:=Tryz.func55.trans (congrArg some (by kernel_rfl))
 f170:=Tryz.func325.trans (congrArg some (by kernel_rfl))
 f206:=Tryz.func217.trans (congrArg some (by kernel_rfl))
 f212:=Tryz.func324.trans (congrArg some (by kernel_rfl))
 f240:=Tryz.func109.trans (congrArg some (by kernel_rfl))
 f241:=Tryz.func232.trans (congrArg some (by kernel_rfl))
 f263:=Tryz.func326.trans (congrArg some (by kernel_rfl))
 f264:=Tryz.func327.trans (congrArg some (by kernel_rfl))
 f276:=Tryz.func175.trans (congrArg some (by kernel_rfl))
 f277:=Tryz.func264.trans (congrArg some (by kernel_rfl))
 t0:=Tryz.underlying0
 a0:=Tryz.isAgg0
 z0:=Tryz.sizeOf0
 v0:=Tryz.zeroValue0
 t3:=Tryz.underlying3
 a3:=Tryz.isAgg3
 z3:=Tryz.sizeOf3
 v3:=Tryz.zeroValue3
 t4:=Tryz.underlying4
 a4:=Tryz.isAgg4
 z4:=Tryz.sizeOf4
 v4:=Tryz.zeroValue4
 t5:=Tryz.underlying5
 a5:=Tryz.isAgg5
 z5:=Tryz.sizeOf5
 v5:=Tryz.zeroValue5
 t9:=Tryz.underlying9
 a9:=Tryz.isAgg9
 z9:=Tryz.sizeOf9
 v9:=Tryz.zeroValue9
 t20:=Tryz.underlying20
 a20:=Tryz.isAgg20
 z20:=Tryz.sizeOf20
 v20:=Tryz.zeroValue20
 t37:=Tryz.underlying101
 a37:=Tryz.isAgg101
 z37:=Tryz.sizeOf101
 v37:=Tryz.zeroValue101
 t46:=Tryz.underlying346
 a46:=Tryz.isAgg346
 z46:=Tryz.sizeOf346
 v46:=Tryz.zeroValue346
 t51:=Tryz.underlying367
 a51:=Tryz.isAgg367
 z51:=Tryz.sizeOf367
 v51:=Tryz.zeroValue367
 t53:=Tryz.underlying349
 a53:=Tryz.isAgg349
 z53:=Tryz.sizeOf349
 v53:=Tryz.zeroValue349
 t70:=Tryz.underlying100
 a70:=Tryz.isAgg100
 z70:=Tryz.sizeOf100
 v70:=Tryz.zeroValue100
 t72:=Tryz.underlying103
 a72:=Tryz.isAgg103
 z72:=Tryz.sizeOf103
 v72:=Tryz.zeroValue103
 t75:=Tryz.underlying105
 a75:=Tryz.isAgg105
 z75:=Tryz.sizeOf105
 v75:=Tryz.zeroValue105
 t76:=Tryz.underlying106
 a76:=Tryz.isAgg106
 z76:=Tryz.sizeOf106
 v76:=Tryz.zeroValue106
 t109:=Tryz.underlying407
 a109:=Tryz.isAgg407
 z109:=Tryz.sizeOf407
 v109:=Tryz.zeroValue407
 t127:=Tryz.underlying191
 a127:=Tryz.isAgg191
 z127:=Tryz.sizeOf191
 v127:=Tryz.zeroValue191
 t146:=Tryz.underlying368
 a146:=Tryz.isAgg368
 z146:=Tryz.sizeOf368
 v146:=Tryz.zeroValue368
 t148:=Tryz.underlying410
 a148:=Tryz.isAgg410
 z148:=Tryz.sizeOf410
 v148:=Tryz.zeroValue410
 t164:=Tryz.underlying263
 a164:=Tryz.isAgg263
 z164:=Tryz.sizeOf263
 v164:=Tryz.zeroValue263 }
theorem Tryz.Builder_Extra_105:Builder.Extra Tryz.prog Tryz.lays105_ren:={
 sizeBuilder:=by kernel_rfl
 liesBuilder:=by kernel_rfl
 t5:=Tryz.underlying5
 a5:=Tryz.isAgg5
 z5:=Tryz.sizeOf5
 v5:=Tryz.zeroValue5
 infoByte:=by kernel_rfl
 cellsByte:=by kernel_rfl
 sizeByte:=by kernel_rfl
 neB5:=by decide }
open Go.RowKit Go.Lib in
theorem Tryz.strings_Repeat (s:ByteArray) (c:Nat) (w:World) (hc:c≤9223372036854775807) (hlen:s.size*c≤140737488355328) :
  Calls Tryz.prog 323 #[.string s,.int .i64 c] w fun e w'=>e=.returned (.string ⟨(Lib.repeatL s.data.toList c).toArray⟩)∧Below w.heap.size w w':=Any.strings_Repeat Tryz.lays105 Tryz.Builder_Extra_105 s c w hc hlen
end Go.Proofs
namespace Go.Proofs.YthohlofpphjofaaGreatDoor
open Go.RowKit
attribute [local go_sem]mk_bs bs_size bs_toList bs_append bs_extract
attribute [local simp]run_cut run_cut_to run_cut_from run_add_bs
def jX (u:Nat):List UInt8:=if u<10 then [UInt8.ofNat (48+u)]else [UInt8.ofNat (48+u/10),UInt8.ofNat (48+u % 10)]
theorem Ci (u:Nat)(h:u<100):Lib.decDigits u=jX u:=by
 unfold jX
 by_cases h1:u<10
 ·rw [if_pos h1,Lib.decDigits,dif_pos h1]
 ·rw [if_neg h1,Lib.decDigits,dif_neg h1,Lib.decDigits,dif_pos (by omega)];rfl
theorem xR (n:Int)(w:World)(h0:0≤n)(h1:n<100) :
  Calls Tryz.prog 108 #[.int .i64 n] w fun e w'=>e=.returned (.string (bs (jX n.toNat)))∧w'=w:=by
 obtain⟨k,rfl⟩:=dP h0
 rw [dB,← Ci k (by omega)]
 exact Tryz.strconv_Itoa_small k aj w
theorem DX (l:List UInt8) (c:Int) (w:World) (h0:0≤c) (h1:c≤100) (h2:l.length≤100) :
  Calls Tryz.prog 323 #[.string (bs l),.int .i64 c] w (Ret (.string (bs (Lib.repeatL l c.toNat))) w):=by
 obtain ⟨k,rfl⟩:=dP h0
 have hk:l.length*k≤100*100:=LK h2 aj
 exact Tryz.strings_Repeat (bs l) k w (by omega) Jp
def frS (c f:Int):List UInt8 :=
 if 11≤c then jX (c-7).toNat else Lib.repeatL [47] (max (c-7) 0).toNat++cut [97,98,99,100,101,102,103,104,105,107,108,109,110,111,112,113,114,115,116] f (f+1)
def XE(c f:Int):Bool:=if 11≤c then f == 0 else true
theorem Gg (c f:Int) (w:World) (hc:11≤c) (hc':c≤14) (hf:0≤f) (hf':f≤18) :
  Calls Tryz.prog 321 #[.agg #[],.agg #[.int .i64 c,.int .i64 f]] w (Ret (.tuple #[.string (bs (frS c f)),.bool (XE c f)]) w):=by
 have e1:frS c f=jX (c - 7).toNat:=if_pos hc
 have e2:XE c f=(f == 0):=if_pos hc
 rw [e1,e2]
 go_enter Tryz.func321,Tryz.ntmps321
 go_wp2
 go_quiet ((go_at_call 108;exact Calls.quiet_of_same (xR _ _ aj aj)))
 go_wp2
 go_ret2
 exact Ret.mk' rfl jD
theorem CG (c f:Int) (w:World) (hc:1≤c) (hc':c≤10) (hf:0≤f) (hf':f≤18) :
  Calls Tryz.prog 321 #[.agg #[],.agg #[.int .i64 c,.int .i64 f]] w (Ret (.tuple #[.string (bs (frS c f)),.bool (XE c f)]) w):=by
 have e1:frS c f=Lib.repeatL [47] (max (c - 7) 0).toNat++cut [97,98,99,100,101,102,103,104,105,107,108,109,110,111,112,113,114,115,116] f (f+1):=if_neg aj
 have e2:XE c f=true:=if_neg aj
 have m0:0≤max (c - 7) 0:=by omega
 have m1:max (c - 7) 0≤100:=by omega
 have hsz:(Lib.repeatL [47] (max (c - 7) 0).toNat).length≤100:=by simp [Lib.repeatL_length];omega
 have g0:0≤f+1:=by omega
 have g1:f+1≤19:=by omega
 have g2:(Lib.repeatL [47] (max (c - 7) 0).toNat).length+(cut [97,98,99,100,101,102,103,104,105,107,108,109,110,111,112,113,114,115,116] f (f+1)).length≤9223372036854775807:=by
  have:=cut_length [97,98,99,100,101,102,103,104,105,107,108,109,110,111,112,113,114,115,116] f (f+1)
  simp at this;omega
 have g3:f≤f+1:=by omega
 have apx:¬ 11≤c:=by omega
 have e7:IntKind.i64.wrap (c - 7)=c - 7:=IntWalk.i64_in _ aj
 have e8:IntKind.i64.wrap (f+1)=f+1:=IntWalk.i64_in _ aj
 rw [e1,e2]
 go_enter Tryz.func321,Tryz.ntmps321
 go_wp2
 go_region_held3 (fun w'=>w'.cell? ⟨w.heap.size+1,0,none⟩=some (.int .i64 c)∧w'.cell? ⟨w.heap.size+1,1,none⟩=some (.int .i64 f))
  (first|(simp [bc];done)|go_keep)
  ((go_at_call 323;refine (DX _ _ _ m0 m1 (by simp)).mono ?_;rintro e w' ⟨rfl,hb⟩;obtain ⟨bc,bf⟩:=bcell hb))
 go_wp2
 go_ret2
 exact Ret.mk' rfl jD
theorem XF (c f:Int)(w:World)(hc:1≤c∧c≤14)(hf:0≤f∧f≤18) :
  Calls Tryz.prog 321 #[.agg #[],.agg #[.int .i64 c,.int .i64 f]] w (Ret (.tuple #[.string (bs (frS c f)),.bool (XE c f)]) w):=by
 by_cases h:11≤c
 ·exact Gg c f w h hc.2 hf.1 hf.2
 ·exact CG c f w hc.1 aj hf.1 hf.2
def NH(f:Int):List UInt8:=if f≤9 then jX f.toNat else if f=10 then [120]else []
def Cm (f:Int):Bool:=decide (f≤10)
theorem QU (f:Int) (w:World) (hf:0≤f∧f≤18) :
  Calls Tryz.prog 328 #[.agg #[],.int .i64 f] w (Ret (.tuple #[.string (bs (NH f)),.bool (Cm f)]) w):=by
 obtain ⟨h0,h1⟩:=hf
 by_cases h9:f≤9
 ·have e1:NH f=jX f.toNat:=if_pos h9
  have e2:Cm f=true:=fQ aj
  rw [e1,e2]
  go_enter Tryz.func328,Tryz.ntmps328
  exact aeP
 ·by_cases h10:f=10
  ·subst h10
   exact ae2
  ·have e1:NH f=[]:=by unfold NH;rw [if_neg h9,if_neg h10]
   have e2:Cm f=false:=dW aj
   have hb:(f == 10)=false:=by simp;exact h10
   rw [e1,e2]
   exact ae2
def itS(c f:Int):List UInt8:=if c≤6 then NH f else if c=10 then [120]else jX c.toNat
def agu(c f:Int):Bool:=if c≤6 then Cm f else f == 0
theorem X4 (c f:Int) (w:World) (hc:1≤c∧c≤14) (hf:0≤f∧f≤18) :
  Calls Tryz.prog 336 #[.agg #[],.agg #[.int .i64 c,.int .i64 f]] w (Ret (.tuple #[.string (bs (itS c f)),.bool (agu c f)]) w):=by
 obtain ⟨hc0,hc1⟩:=hc
 have hp:∀ (w:World) (o:Obj),(partAt ⟨w.heap.size,0,none⟩ 0 0).run Tryz.prog ((w.alloc (.cells #[] 174)).alloc o)=.ok ⟨w.heap.size,0,none⟩ ((w.alloc (.cells #[] 174)).alloc o) :=
  fun w o=>run_partAt_zero _ _ _ _ (heap_alloc2 w _ o) (by kernel_rfl)
 by_cases h6:c≤6
 ·have e1:itS c f=NH f:=if_pos h6
  have e2:agu c f=Cm f:=if_pos h6
  rw [e1,e2]
  go_enter Tryz.func336,Tryz.ntmps336
  exact aeR
 ·have e2:agu c f=(f == 0):=if_neg h6
  by_cases h10:c=10
  ·subst h10
   rw [e2]
   go_enter Tryz.func336,Tryz.ntmps336
   go_wp2
   go_quiet (fail)
   go_wp2
   exact pG
  ·have e1:itS c f=jX c.toNat:=by unfold itS;rw [if_neg h6,if_neg h10]
   have hb:(c == 10)=false:=by simp;exact h10
   rw [e1,e2]
   go_enter Tryz.func336,Tryz.ntmps336
   go_wp2
   go_quiet ((go_at_call 108;exact Calls.quiet_of_same (xR _ _ aj aj)))
   go_wp2
   exact pG
def spS(c f:Int):List UInt8:=if c≤6 then NH f else []
def ahs(c f:Int):Bool:=if c≤6 then Cm f else false
theorem Zo (c f:Int) (w:World) (hf:0≤f∧f≤18) :
  Calls Tryz.prog 344 #[.agg #[],.agg #[.int .i64 c,.int .i64 f]] w (Ret (.tuple #[.string (bs (spS c f)),.bool (ahs c f)]) w):=by
 have hp:∀ (w:World) (o:Obj),(partAt ⟨w.heap.size,0,none⟩ 0 0).run Tryz.prog ((w.alloc (.cells #[] 176)).alloc o)=.ok ⟨w.heap.size,0,none⟩ ((w.alloc (.cells #[] 176)).alloc o) :=
  fun w o=>run_partAt_zero _ _ _ _ (heap_alloc2 w _ o) (by kernel_rfl)
 by_cases h6:c≤6
 ·have e1:spS c f=NH f:=if_pos h6
  have e2:ahs c f=Cm f:=if_pos h6
  have h6':¬ 6 < c:=by omega
  rw [e1,e2]
  go_enter Tryz.func344,Tryz.ntmps344
  exact aeR
 ·have e1:spS c f=[]:=if_neg h6
  have e2:ahs c f=false:=if_neg h6
  have h6':6 < c:=by omega
  rw [e1,e2]
  go_enter Tryz.func344,Tryz.ntmps344
  go_wp2
  exact pG
def small:List UInt8:=[97,98,99,100,101,102,103,104,105,107,108,109,110,111,112,113,114,115,116,118,120,121,122,38,57]
def aay(c f:Int):Int:=(f-1) % 5*5+5-c
def geS (c f:Int):List UInt8 :=
 if 6<c∨10<f then [] else if c=6 then (if f=0 then [43] else cut [65,66,67,68,69,70,71,72,73,75] (f-1) f)
 else if f=0 then jX (6-c).toNat else Lib.repeatL (cut small (aay c f) (aay c f+1)) ((f+4)/5).toNat
def XG (c f:Int):Bool:=decide (c≤6∧f≤10)
theorem NK (c f:Int) (w:World) (hc:1≤c∧c≤5) (hf:1≤f∧f≤10) :
  Calls Tryz.prog 351 #[.agg #[],.agg #[.int .i64 c,.int .i64 f]] w (Ret (.tuple #[.string (bs (geS c f)),.bool (XG c f)]) w):=by
 obtain ⟨hc0,hc1⟩:=hc
 obtain ⟨hf0,hf1⟩:=hf
 have e1:geS c f=Lib.repeatL (cut small (aay c f) (aay c f+1)) ((f+4)/5).toNat:=by
  unfold geS;rw [if_neg (by omega),if_neg (by omega),if_neg (by omega)]
 have e2:XG c f=true:=fQ aj
 rw [e1,e2]
 unfold aay small
 have hb1:(c == 6)=false:=by simp;omega
 have hb2:(f == 0)=false:=by simp;omega
 have g0:0≤(f - 1) % 5*5+5 - c:=by omega
 have g0':c≤(f - 1) % 5*5+5:=by omega
 have g2':(f - 1) % 5*5+5 - c≤24:=by omega
 have g1:(f - 1) % 5*5+5 - c≤(f - 1) % 5*5+5 - c+1:=by omega
 have g2:(f - 1) % 5*5+5 - c+1≤25:=by omega
 have g3:0≤f+4:=by omega
 have q0:0≤(f+4)/5:=by omega
 have q1:(f+4)/5≤100:=by omega
 have ql:=cut_length [97,98,99,100,101,102,103,104,105,107,108,109,110,111,112,113,114,115,116,118,120,121,122,38,57] ((f - 1) % 5*5+5 - c) ((f - 1) % 5*5+5 - c+1)
 have ql':(cut [97,98,99,100,101,102,103,104,105,107,108,109,110,111,112,113,114,115,116,118,120,121,122,38,57] ((f - 1) % 5*5+5 - c) ((f - 1) % 5*5+5 - c+1)).length≤100:=iD ql (by decide)
 clear ql
 have w1:IntKind.i64.wrap ((f - 1) % 5*5+5 - c+1)=(f - 1) % 5*5+5 - c+1:=IntWalk.i64_in _ aj
 have w2:IntKind.i64.wrap (f+4)=f+4:=IntWalk.i64_in _ aj
 have w3:IntKind.i64.wrap ((f+4).tdiv 5)=(f+4)/5:=by rw [Int.tdiv_eq_ediv_of_nonneg (by omega)];exact IntWalk.i64_in _ (by omega)
 go_enter Tryz.func351,Tryz.ntmps351
 go_wp2
 go_region_held3 (fun w'=>w'.cell? ⟨w.heap.size+1,0,none⟩=some (.int .i64 c)∧w'.cell? ⟨w.heap.size+1,1,none⟩=some (.int .i64 f))
  (first|(simp [bc];done)|go_keep)
  ((go_at_call 323;refine (DX _ _ _ q0 q1 ql').mono ?_;rintro e w' ⟨rfl,hb⟩;obtain ⟨bc,bf⟩:=bcell hb))
 go_wp2
 go_ret2
 exact Ret.mk' rfl jD
theorem XI (c f:Int) (w:World) (hc:1≤c∧c≤14) (hf:0≤f∧f≤18) :
  Calls Tryz.prog 351 #[.agg #[],.agg #[.int .i64 c,.int .i64 f]] w (Ret (.tuple #[.string (bs (geS c f)),.bool (XG c f)]) w):=by
 obtain ⟨hc0,hc1⟩:=hc
 obtain ⟨hf0,hf1⟩:=hf
 by_cases hbad:6 < c∨10 < f
 ·have e1:geS c f=[]:=if_pos hbad
  have e2:XG c f=false:=dW aj
  rw [e1,e2]
  by_cases h6:6 < c
  ·exact MI
  ·have h10:10 < f:=by omega
   exact MI
 ·have e2:XG c f=true:=fQ aj
  have k1:¬ 6 < c:=by omega
  have k2:¬ 10 < f:=by omega
  by_cases h6:c=6
  ·subst h6
   by_cases h0:f=0
   ·subst h0
    rw [e2]
    exact MI
   ·have e1:geS 6 f=cut [65,66,67,68,69,70,71,72,73,75] (f - 1) f:=by unfold geS;rw [if_neg hbad,if_pos rfl,if_neg h0]
    have hb2:(f == 0)=false:=by simp;omega
    have g0:0≤f - 1:=by omega
    have g0':1≤f:=by omega
    have g1:f - 1≤f:=by omega
    have g2:f≤10:=by omega
    rw [e1,e2]
    exact MI
  ·have hb1:(c == 6)=false:=by simp;omega
   by_cases h0:f=0
   ·subst h0
    have e1:geS c 0=jX (6 - c).toNat:=by unfold geS;rw [if_neg hbad,if_neg h6,if_pos rfl]
    rw [e1,e2]
    go_enter Tryz.func351,Tryz.ntmps351
    exact aeP
   ·exact NK c f w ⟨hc0,by omega⟩ ⟨by omega,by omega⟩
section
open Go.RowKit
attribute [local go_sem]mk_bs bs_size bs_toList bs_append bs_extract
attribute [local simp]run_cut run_cut_to run_cut_from run_add_bs
def G9:List UInt8:=[97,98,99,100,101,102,103,104,105,107,108,109,110,111,112,113,114,115,116]
def QT:List UInt8:=[48,49,50,51,52,53,54,55,56,57,120]
def Tv:List UInt8:=[97,98,99,100,101,102,103,104,105,107,108,109,110,111,112,113,114,115,116,118,120,121,122,38,57]
def rge (c f:Int):List UInt8 :=
 if c=6 then cut [43,65,66,67,68,69,70,71,72,73,75] f (f+1)
 else if f=0 then cut [49,50,51,52,53] (5-c) (6-c)
 else if 5<f then cut Tv (5*((f-1) % 5)+5-c) (5*((f-1) % 5)+6-c)++cut Tv (5*((f-1) % 5)+5-c) (5*((f-1) % 5)+6-c)
 else cut Tv (5*((f-1) % 5)+5-c) (5*((f-1) % 5)+6-c)
def agv (c:Int):List UInt8:=[[55],[56],[57],[120],[49,49],[49,50],[49,51],[49,52]].getD (c-7).toNat []
def rS (s c f:Int):List UInt8 :=
 if s=1 then
  (if c≤7 then cut G9 f (f+1) else if c≤10 then cut [47,47,47] 0 (c-7)++cut G9 f (f+1) else if f=0 then cut [52,53,54,55] (c-11) (c-10) else [])
 else if s=4 then (if c≤6∧f≤10 then rge c f else [])
 else if c≤6∧f≤10 then cut QT f (f+1) else if s=2∧6<c∧f=0 then agv c else []
end
section
def pS(s c f:Int):List UInt8:=if s=1 then frS c f else if s=2 then itS c f else if s=3 then spS c f else geS c f
def Gv(s c f:Int):Bool:=if s=1 then XE c f else if s=2 then agu c f else if s=3 then ahs c f else XG c f
def acM(s c f:Nat):Bool:=(Gv s c f == !(rS s c f).isEmpty) && (!Gv s c f|| pS s c f == rS s c f)
theorem akW:((List.range' 1 4).all fun s=>(List.range' 1 14).all fun c=>(List.range 19).all fun f=>acM s c f)=true:=by
 decide +kernel
theorem lU (s c f:Int)(hs:1≤s∧s≤4)(hc:1≤c∧c≤14)(hf:0≤f∧f≤18) :
  Gv s c f=!(rS s c f).isEmpty∧(Gv s c f=true→pS s c f=rS s c f):=by
 obtain⟨s,rfl⟩:=dP (show 0≤s by omega)
 obtain⟨c,rfl⟩:=dP (show 0≤c by omega)
 obtain⟨f,rfl⟩:=dP hf.1
 have h:=akW
 rw [jS]at h
 have h1:=h s (List.mem_range'_1.2 aj)
 rw [jS]at h1
 have h2:=h1 c (List.mem_range'_1.2 aj)
 rw [jS]at h2
 have h3:=h2 f (List.mem_range.2 aj)
 grind[acM]
def sG(s c f:Int):Int :=
 if ¬ (1≤s∧s≤4)then 30 else if c<1∨14<c then 12 else if f<0∨18<f then 13 else if rS s c f=[]then 31 else 0
theorem TP(s c f:Int)(hs:1≤s∧s≤4)(h:(c<1∨14<c)∨(f<0∨18<f)):sG s c f=if c<1∨14<c then 12 else 13:=by
 grind[sG]
def dU (s aQ c:Int):Bool:=if 0<aQ then c == aQ else (s == 4|| decide (6<c))
def Gw(s aQ:Int)(l:List UInt8)(c f:Nat):Bool:=dU s aQ c && (!(rS s c f).isEmpty && rS s c f == l)
def mD(m:Nat→Bool)(f n:Nat):Option Nat:=(List.range' f n).find? m
def ng (m:Nat→Nat→Bool)(c n:Nat):Option (Nat×Nat):=(List.range' c n).findSome? fun c=>(mD (m c) 0 19).map fun f=>(c,f)
theorem Zg (m:Nat→Bool)(f n:Nat)(h:m f=true):mD m f (n+1)=some f:=by grind[mD,Fg]
theorem acw (m:Nat→Bool)(f n:Nat)(h:m f=false):mD m f (n+1)=mD m (f+1) n:=by grind[mD,Fg]
theorem TA(m:Nat→Bool)(f n:Nat)(h:∀ k,f≤k→k<f+n→m k=false):mD m f n=none:=by
 simp_all[mD]
theorem xw (m:Nat→Nat→Bool)(c n:Nat):ng m c (n+1)=match mD (m c) 0 19 with|some f=>some (c,f)|none=>ng m (c+1) n:=by
 grind[ng,Fg]
theorem Zf (m:Nat→Nat→Bool)(c n f:Nat)(h:mD (m c) 0 19=some f):ng m c (n+1)=some (c,f):=by rw [xw,h]
theorem acv (m:Nat→Nat→Bool)(c n:Nat)(h:mD (m c) 0 19=none):ng m c (n+1)=ng m (c+1) n:=by rw [xw,h]
def aC(s aQ:Int):Int:=if ¬ (1≤s∧s≤4)then 30 else if(aQ<0∨6<aQ)∨(s=4∧aQ≠0)then 12 else 0
def placeOf (s aQ:Int)(l:List UInt8):Int×Int×Int :=
 if aC s aQ≠0 then (0,0,aC s aQ) else match ng (Gw s aQ l) 1 14 with|some (c,f)=>((c:Int),(f:Int),0)|none=>(0,0,4)
theorem rV {s aQ:Int} {l:List UInt8} {c f:Nat} (h:aC s aQ=0)(hs:ng (Gw s aQ l) 1 14=some (c,f)):placeOf s aQ l=((c:Int),(f:Int),0):=by
 simp_all[placeOf]
theorem yw {s aQ:Int} {l:List UInt8} (h:aC s aQ=0)(hs:ng (Gw s aQ l) 1 14=none):placeOf s aQ l=(0,0,4):=by
 simp_all[placeOf]
theorem Py {s aQ:Int} {l:List UInt8} (h:aC s aQ≠0):placeOf s aQ l=(0,0,aC s aQ):=by
 simp_all[placeOf]
theorem ag4 {s aQ:Int} {l:List UInt8} {c f:Nat} (hs:1≤s∧s≤4)(hc:1≤c∧c≤14)(hf:f≤18)(h:Gw s aQ l c f=true) :
  Gv s c f=true∧(pS s c f == l)=true:=by
 grind[lU,Gw]
theorem aky {s aQ:Int} {l:List UInt8} {c f:Nat} (hs:1≤s∧s≤4)(hc:1≤c∧c≤14)(hf:f≤18)(hst:dU s aQ c=true)(h:Gw s aQ l c f=false) :
  Gv s c f=false∨(Gv s c f=true∧(pS s c f == l)=false):=by
 grind[lU,Gw]
end
section
open Go.RowKit
theorem x9 {evs:List Ev} {i c:Int} (h:i<0∨(evs.length:Int)≤i):ah evs i c=0:=if_pos h
theorem Ob {evs:List Ev} {i:Nat} {c:Int} (h:i<evs.length):ah evs i c=nK c 15 (evs.drop (i+1)):=by unfold ah;rw [if_neg (by omega)];simp
structure fH(p:aN):Prop where
 n1:p.cs.length≤64
 n2:p.st.length≤64
 n3:p.evs.length≤420
 n4:∀ k(h:k<p.evs.length),p.evs[k].stops.length≤20
def qp(s c n:Int):Int:=if s=4 then 0 else if s=2 then n+1-c else c
theorem jK {cs:List (Int×Int×Bool)} {st:List Int} (h:gB cs st=0):1≤cs.length∧cs.length≤14∧st.length≤18∧gJ 0 st=false∧tH st cs=0:=by
 unfold gB at h
 by_cases h1:14<cs.length∨18<st.length
 ·rw [if_pos h1]at h;cases h
 ·rw [if_neg h1]at h
  by_cases h2:cs.length=0
  ·rw [if_pos h2]at h;cases h
  ·rw [if_neg h2]at h
   by_cases h3:gJ 0 st=true
   ·rw [if_pos h3]at h;cases h
   ·rw [if_neg h3]at h
    exact⟨by omega,by omega,by omega,by simpa using h3,h⟩
theorem YV (e:Ev)(S:Option Addr)(c:Nat)(w:World):Calls Tryz.prog 164 #[Vm e S c] w (Ret (.bool (jl e)) w):=by
 obtain⟨bar,val,dot,three,tie,stops⟩:=e
 unfold Vm jl
 simp only
 generalize stops.length=n
 cases tie
 all_goals
  cases hn:((n:Int) == 0)
  all_goals
   have hn2:(n == 0)=((n:Int) == 0):=by rw [Fe];simp
   rw [hn2,hn]
   clear hn2
   go_enter Tryz.func164,Tryz.ntmps164
   go_wp2
   go_ret
   exact Ret.mk' rfl jD
def Gi (c:Int):List Stp→Nat→Int
 | [],_=>-1
 | x::r,k=>if x.1=c then k else Gi c r (k+1)
theorem aaM (c:Int):∀ (l:List Stp)(k:Nat),decide (0≤Gi c l k)=hasB c l:=by
 intro l
 induction l with
 | nil=>intro k;rfl
 | cons x r ih =>
  intro k
  unfold Gi hasB
  by_cases h:x.1=c
  ·simp [h]
  ·rw [if_neg h,ih (k+1)]
   have:(x.1 == c)=false:=by simpa using h
   simp [hasB,this]
theorem agq {c:Int} {l:List Stp} {k:Nat} (h:k<l.length):Gi c (l.drop k) k=if l[k].1=c then (k:Int) else Gi c (l.drop (k+1)) (k+1):=by
 exact FN
theorem agW (y0 y1 y2 y3 y4 x:Int) (b:Nat) (w:World) (hx:w.cell? ⟨b,0,none⟩=some (.int .i64 x)) (hb:b < w.heap.size) :
  Calls Tryz.prog 223 #[.agg #[.int .i64 y0,.int .i64 y1,.int .i64 y2,.int .i64 y3,.int .i64 y4],.pointer (some ⟨b,0,none⟩)] w (Ret (.bool (y0 == x)) w):=by
 obtain ⟨V,hV⟩:∃ V,(y0 == x)=V:=⟨_,rfl⟩
 rw [hV]
 go_enter Tryz.func223,Tryz.ntmps223
 go_wp2
 go_ret
 exact Ret.mk' rfl jD
theorem SI (S:Option Addr) (l:List Stp) (n c b:Nat) (x:Int) (w:World) (hS:eP w w.heap.size S l) (hnn:l.length=n) (hn:n≤20) (hx:w.cell? ⟨b,0,none⟩=some (.int .i64 x)) :
  Calls Tryz.prog 195 #[.slice S n c,.func (.func 223) #[] #[.pointer (some ⟨b,0,none⟩)]] w (Ret (.int .i64 (Gi x l 0)) w):=by
 have HS:=Lib.hid hS
 have HN:=Lib.hid hnn
 have hbw:b < w.heap.size:=World.block_lt_of_cell? w _ hx
 obtain ⟨V,hV⟩:∃ V,Gi x l 0=V:=⟨_,rfl⟩
 rw [hV]
 have HV:=Lib.hid hV
 clear hV hnn hS
 go_enter Tryz.func195,Tryz.ntmps195
 go_wp2
 go_loopw [8] (fun i wr=>∃ k:Nat,k≤n∧i=.int .i64 k∧V=Gi x (l.drop k) k∧Below w.heap.size w wr) (fun i _=>n - (intOf i).toNat)
 case atStart=>exact ⟨0,dD _,rfl,HV.out.symm,jD⟩
 case round =>
  obtain ⟨k,hk,rfl,hs,hbel⟩:=hrel
  have HR:=Lib.hid hs
  clear hs
  have hxr:wr.cell? ⟨b,0,none⟩=some (.int .i64 x):=(hbel.cell (p:=⟨b,0,none⟩) hbw).trans hx
  have hbr:b < wr.heap.size:=jr hbw hbel.size
  by_cases hlt:k < n
  ·have hk2:k < l.length:=by have:=HN.out;omega
   have HS2:=Lib.hid (HS.out.below hbel)
   obtain ⟨ad,hA,hb,hc0,hc1,hc2,hc3,hc4⟩:=HS2.out.stp hk2
   subst hA
   have hs2:=HR.out.trans (agq hk2)
   have hcl:=fun w' (hb':Below wr.heap.size wr w')=>agW l[k].1 l[k].2.1 l[k].2.2.1 l[k].2.2.2.1 l[k].2.2.2.2 x b w' ((hb'.cell (p:=⟨b,0,none⟩) hbr).trans hxr) (jr hbr hb'.size)
   generalize l[k].1=y0 at *
   generalize l[k].2.1=y1 at *
   generalize l[k].2.2.1=y2 at *
   generalize l[k].2.2.2.1=y3 at *
   generalize l[k].2.2.2.2=y4 at *
   by_cases hyx:y0=x
   ·have HE:=Lib.hid (hs2.trans (if_pos hyx))
    have hyb:(y0 == x)=true:=by simpa using hyx
    rw [hyb] at hcl
    have KC:=Lib.hid hcl
    clear hs2 hcl hyx hyb hx hxr
    go_wp2_with (go_at_call 223;refine (KC.out _ jD).mono ?_;rintro e' w1 ⟨rfl,hb1⟩)
    go_ret
    exact Ret.mk' (by rw [HE.out];rfl) jD
   ·have HR2:=Lib.hid (hs2.trans (if_neg hyx))
    have hyb:(y0 == x)=false:=by simpa using hyx
    rw [hyb] at hcl
    have KC:=Lib.hid hcl
    clear hs2 hcl hyx hyb hx hxr
    go_wp2_with (go_at_call 223;refine (KC.out _ jD).mono ?_;rintro e' w1 ⟨rfl,hb1⟩)
    go_roundw
    case rel=>exact ⟨k+1,by omega,by go_num,HR2.out,jD⟩
    case measure=>simp [intOf];omega
  ·have HE:=Lib.hid (HR.out.trans (show Gi x (l.drop k) k=-1 from by rw [qN (by have:=HN.out;omega)];rfl))
   exact Jw
theorem Pq (e:Ev) (S:Option Addr) (c:Nat) (x:Int) (w:World) (hS:eP w w.heap.size S e.stops) (hn:e.stops.length≤20):Calls Tryz.prog 165 #[Vm e S c,.int .i64 x] w (Ret (.bool (hasB x e.stops)) w):=by
 obtain ⟨bar,val,dot,three,tie,stops⟩:=e
 unfold Vm
 simp only at *
 obtain ⟨n,hnn⟩:∃ n,stops.length=n:=⟨_,rfl⟩
 rw [hnn] at hn ⊢
 have HS:=Lib.hid (fun (w':World) (hb:Below w.heap.size w w')=>hS.after hb)
 have HN:=Lib.hid hnn
 have hI:=aaM x stops 0
 have HX:=fun b w' h1 h2=>SI S stops n c b x w' h1 hnn hn h2
 generalize Gi x stops 0=V at *
 rw [← hI]
 have KX:=Lib.hid HX
 clear hI HX hnn hS
 have hct:∀ (b:Nat) (w':World),eP w' w'.heap.size S stops→w'.cell? ⟨b,0,none⟩=some (.int .i64 x) →
   Calls Tryz.prog 222 #[.slice S n c,.func (.func 223) #[] #[.pointer (some ⟨b,0,none⟩)]] w' (Ret (.bool (decide (0≤V))) w'):=by
  intro b w' h1 h2
  have H1:=Lib.hid h1
  have H2:=Lib.hid h2
  clear h1 h2
  go_enter Tryz.func222,Tryz.ntmps222
  go_wp2_with (go_at_call 195;refine (KX.out b _ H1.out H2.out).mono ?_;rintro e' w1 ⟨rfl,hb1⟩)
  go_ret
  exact Ret.mk' (by rfl) jD
 have KT:=Lib.hid hct
 clear hct
 go_enter Tryz.func165,Tryz.ntmps165
 go_wp2_with (go_at_call 222;refine (KT.out _ _ (HS.out _ jD) (by simp)).mono ?_;rintro e' w1 ⟨rfl,hb1⟩)
 go_ret
 exact Ret.mk' rfl jD
theorem rP (M:PM) (p:aN) (i x:Int) (w:World) (hP:oI w w.heap.size M p) (hO:fH p) :
  Calls Tryz.prog 95 #[dL M p,.int .i64 i,.int .i64 x] w (Ret (.int .i64 (ah p.evs i x)) w):=by
 obtain ⟨A1,A2,A3,c1,c2,c3⟩:=M
 obtain ⟨cs,st,evs⟩:=p
 unfold dL
 have HP:=Lib.hid hP.2.1
 have hcap:=hP.2.2
 have H4:=Lib.hid hO.n4
 have hn3:=hO.n3
 simp only at *
 generalize cs.length=n1
 generalize st.length=n2
 obtain ⟨n3,hnn⟩:∃ n,evs.length=n:=⟨_,rfl⟩
 rw [hnn] at hn3 hcap ⊢
 have HN:=Lib.hid hnn
 by_cases hi0:i < 0
 ·rw [x9 (.inl hi0)]
  exact adH
 ·by_cases hi1:(n3:Int)≤i
  ·rw [x9 (.inr (by omega))]
   exact adH
  ·obtain ⟨j,rfl⟩:∃ j:Nat,i=j:=⟨i.toNat,by omega⟩
   have hj:j < n3:=by omega
   have d1:decide ((j:Int) < 0)=false:=dW aj
   have d2:decide ((n3:Int)≤(j:Int))=false:=dW aj
   have d3:decide (n3≤j)=false:=dW aj
   rw [Ob (by omega)]
   obtain ⟨V,hV⟩:∃ V,nK x 15 (evs.drop (j+1))=V:=⟨_,rfl⟩
   rw [hV]
   have HV:=Lib.hid hV
   obtain ⟨ad,hA,anE⟩:∃ ad,A3=some ad∧ad.block < w.heap.size:=by
    obtain ⟨ad,_,_,hA,hb,_⟩:=HP.out.ev (k:=j) aj
    exact ⟨ad,hA,hb⟩
   subst hA
   clear hV hnn hP hO hi0 hi1
   have g1:(j:Int)+1≤n3:=by omega
   have g2:(n3:Int)≤c3:=by omega
   have g3:(0:Int)≤(j:Int)+1:=by omega
   have g4:((j:Int)+1).toNat=j+1:=by omega
   by_cases hc:c3=j+1
   ·have hV0:V=0:=by have:=HV.out;rw [qN (by have:=HN.out;omega),PS] at this;exact this.symm
    have hn:n3=j+1:=by omega
    subst hV0 hn hc
    go_enter Tryz.func95,Tryz.ntmps95
    go_wp2
    go_loopw [7,25] (fun v i wr=>v=.int .i64 0∧i=.int .i64 0∧Below w.heap.size w wr) (fun _ _ _=>0)
    case atStart=>exact ⟨rfl,rfl,jD⟩
    case round =>
     obtain ⟨rfl,rfl,hbel⟩:=hrel
     exact xE
   ·obtain ⟨m,hm⟩:∃ m,n3 - (j+1)=m:=⟨_,rfl⟩
    go_enter Tryz.func95,Tryz.ntmps95
    go_wp2
    have HM:=Lib.hid hm
    clear hm
    go_loopw [7,25] (fun v i wr=>∃ h:Nat,h≤15∧h≤m∧v=.int .i64 h∧i=.int .i64 h∧V=h+nK x (15 - h) (evs.drop (j+1+h))∧Below w.heap.size w wr)
     (fun _ i _=>m - (intOf i).toNat)
    case atStart=>exact ⟨0,by omega,by omega,rfl,rfl,by simpa using HV.out.symm,jD⟩
    case round =>
     obtain ⟨h,hh,hjh,rfl,rfl,hs,hbel⟩:=hrel
     have HR:=Lib.hid hs
     clear hs
     by_cases hlt:h < m
     ·have hk2:j+1+h < evs.length:=by have:=HN.out;have:=HM.out;omega
      have HE:=Lib.hid (HP.out.below hbel)
      obtain ⟨ad',S,c,hA,hb,e0,e1,e2,e3,e4,e5,hS⟩:=HE.out.ev hk2
      obtain rfl:ad=ad':=by injection hA
      have hX:ad.add ((j+1+h)*6)=(ad.add ((j+1)*6)).add (h*6):=by rw [add_of_add,Nat.add_mul]
      rw [hX] at e0 e1 e2 e3 e4 e5
      have hs2:=HR.out
      have HS:=Lib.hid hS
      have H20:=H4.out _ hk2
      have HS2:=Lib.hid (fun (w':World) (hb:Below wr.heap.size wr w')=>((HS.out.more hbel.size).after hb))
      by_cases h15:h=15
      ·have HE2:=Lib.hid (hs2.trans (show _=h by rw [show 15 - h=0 from by omega];rfl))
       have ank:((h:Int) == 15)=true:=by simp;omega
       have anl:((15:Int)=(h:Int)):=by omega
       clear hs2 hS hX hA h15 anl
       go_wp2_with fail
       exact UH
      ·have ank:((h:Int) == 15)=false:=by simp;omega
       have HC:(V=h∧(jl evs[j+1+h]=true∨(jl evs[j+1+h]=false∧hasB x evs[j+1+h].stops=true)))∨(V=(h+1)+nK x (15 - (h+1)) (evs.drop (j+1+(h+1)))∧jl evs[j+1+h]=false∧hasB x evs[j+1+h].stops=false):=by
        cases hr:jl evs[j+1+h]
        ·cases hq:hasB x evs[j+1+h].stops
         ·refine .inr ⟨?_,rfl,rfl⟩
          rw [hs2,show 15 - h=(15 - (h+1))+1 from by omega,Zc hk2 (by rw [hr,hq];rfl),show j+1+(h+1)=j+1+h+1 from by omega]
          omega
         ·exact .inl ⟨by rw [hs2,IG hk2 (by rw [hr,hq];rfl)];rfl,.inr ⟨rfl,rfl⟩⟩
        ·exact .inl ⟨by rw [hs2,IG hk2 (by rw [hr];rfl)];rfl,.inl rfl⟩
       clear hs2 hS hX hA
       obtain ⟨e,he⟩:∃ e,evs[j+1+h]=e:=⟨_,rfl⟩
       rw [he] at e0 e1 e2 e3 e4 e5 H20 HC
       rw [he] at HS2
       have R:=fun w=>YV e S c w
       have HH:=fun w hS=>Pq e S c x w hS H20
       rcases HC with ⟨hv,hr|⟨hr,hq⟩⟩|⟨hv,hr,hq⟩
       ·rw [hr] at R
        have KR:=Lib.hid R
        have HE2:=Lib.hid hv
        clear R HH hv he hr H20
        go_wp2_with (go_at_call 164;refine (KR.out _).mono ?_;rintro e' w1 ⟨rfl,hb1⟩;have k1:=(Blk.new _ _ _).after hb1;have x0:w1.cell? ⟨wr.heap.size,0,none⟩=some (.bool e.bar):=k1.cell 0;have x1:w1.cell? ⟨wr.heap.size,1,none⟩=some (.int .i64 e.val):=k1.cell 1;have x2:w1.cell? ⟨wr.heap.size,2,none⟩=some (.bool e.dot):=k1.cell 2;have x3:w1.cell? ⟨wr.heap.size,3,none⟩=some (.bool e.three):=k1.cell 3;have x4:w1.cell? ⟨wr.heap.size,4,none⟩=some (.bool e.tie):=k1.cell 4;have x5:w1.cell? ⟨wr.heap.size,5,none⟩=some (.slice S e.stops.length c):=k1.cell 5;have K1:=Lib.hid k1;clear k1)
        exact UH
       ·rw [hr] at R
        rw [hq] at HH
        have KR:=Lib.hid R
        have KH:=Lib.hid HH
        have HE2:=Lib.hid hv
        clear R HH hv he hr hq H20
        go_wp2_with (first|(go_at_call 164;refine (KR.out _).mono ?_;rintro e' w1 ⟨rfl,hb1⟩;have k1:=(Blk.new _ _ _).after hb1;have x0:w1.cell? ⟨wr.heap.size,0,none⟩=some (.bool e.bar):=k1.cell 0;have x1:w1.cell? ⟨wr.heap.size,1,none⟩=some (.int .i64 e.val):=k1.cell 1;have x2:w1.cell? ⟨wr.heap.size,2,none⟩=some (.bool e.dot):=k1.cell 2;have x3:w1.cell? ⟨wr.heap.size,3,none⟩=some (.bool e.three):=k1.cell 3;have x4:w1.cell? ⟨wr.heap.size,4,none⟩=some (.bool e.tie):=k1.cell 4;have x5:w1.cell? ⟨wr.heap.size,5,none⟩=some (.slice S e.stops.length c):=k1.cell 5;have K1:=Lib.hid k1;clear k1)|(go_at_call 165;refine (KH.out _ (HS2.out _ jD)).mono ?_;rintro e' w2 ⟨rfl,hb2⟩))
        exact UH
       ·rw [hr] at R
        rw [hq] at HH
        have KR:=Lib.hid R
        have KH:=Lib.hid HH
        have HE2:=Lib.hid hv
        clear R HH hv he hr hq H20
        go_wp2_with (first|(go_at_call 164;refine (KR.out _).mono ?_;rintro e' w1 ⟨rfl,hb1⟩;have k1:=(Blk.new _ _ _).after hb1;have x0:w1.cell? ⟨wr.heap.size,0,none⟩=some (.bool e.bar):=k1.cell 0;have x1:w1.cell? ⟨wr.heap.size,1,none⟩=some (.int .i64 e.val):=k1.cell 1;have x2:w1.cell? ⟨wr.heap.size,2,none⟩=some (.bool e.dot):=k1.cell 2;have x3:w1.cell? ⟨wr.heap.size,3,none⟩=some (.bool e.three):=k1.cell 3;have x4:w1.cell? ⟨wr.heap.size,4,none⟩=some (.bool e.tie):=k1.cell 4;have x5:w1.cell? ⟨wr.heap.size,5,none⟩=some (.slice S e.stops.length c):=k1.cell 5;have K1:=Lib.hid k1;clear k1)|(go_at_call 165;refine (KH.out _ (HS2.out _ jD)).mono ?_;rintro e' w2 ⟨rfl,hb2⟩))
        go_roundw
        case rel=>exact ⟨h+1,by omega,by omega,by go_num,by go_num,HE2.out,jD⟩
        case measure=>simp [intOf];omega
     ·have HE:=Lib.hid (HR.out.trans (show h+nK x (15 - h) (evs.drop (j+1+h))=h from by rw [qN (by have:=HN.out;have:=HM.out;omega),PS];rfl))
      exact Jw
end
section
open Go.RowKit
attribute [local go_sem]mk_bs bs_size bs_toList bs_append bs_extract
attribute [local simp]run_cut run_cut_to run_cut_from run_add_bs
theorem akt (n:Int)(w:World)(h:n<1∨4<n):Calls Tryz.prog 50 #[.int .u8 n] w fun e w'=>e=.returned (.tuple #[.nilIface,.bool false])∧w=w':=by
 have h1:(n == 1)=false:=by simp;omega
 have h2:(n == 2)=false:=by simp;omega
 have h3:(n == 3)=false:=by simp;omega
 have h4:(n == 4)=false:=by simp;omega
 exact Qv
theorem akA (c f:Int)(w:World)(hc:1≤c∧c≤14)(hf:0≤f∧f≤18) :
  Calls Tryz.prog 321 #[.agg #[],.agg #[.int .i64 c,.int .i64 f]] w (Ret (.tuple #[.string (bs (pS 1 c f)),.bool (Gv 1 c f)]) w):=XF c f w hc hf
theorem akB (c f:Int)(w:World)(hc:1≤c∧c≤14)(hf:0≤f∧f≤18) :
  Calls Tryz.prog 336 #[.agg #[],.agg #[.int .i64 c,.int .i64 f]] w (Ret (.tuple #[.string (bs (pS 2 c f)),.bool (Gv 2 c f)]) w):=X4 c f w hc hf
theorem akC (c f:Int)(w:World)(hc:1≤c∧c≤14)(hf:0≤f∧f≤18) :
  Calls Tryz.prog 344 #[.agg #[],.agg #[.int .i64 c,.int .i64 f]] w (Ret (.tuple #[.string (bs (pS 3 c f)),.bool (Gv 3 c f)]) w):=Zo c f w hf
theorem akD (c f:Int)(w:World)(hc:1≤c∧c≤14)(hf:0≤f∧f≤18) :
  Calls Tryz.prog 351 #[.agg #[],.agg #[.int .i64 c,.int .i64 f]] w (Ret (.tuple #[.string (bs (pS 4 c f)),.bool (Gv 4 c f)]) w):=XI c f w hc hf
theorem TJ (s c aQ:Int)(w:World) :
  Calls Tryz.prog 86 #[.int .u8 s,.int .i64 c,.int .i64 aQ] w fun e w'=>e=.returned (.bool (dU s aQ c))∧w'=w:=by
 by_cases h:0<aQ
 ·have e1:dU s aQ c=(c == aQ):=if_pos h
  rw [e1]
  exact afw
 ·have e1:dU s aQ c=(s == 4|| decide (6<c)):=if_neg h
  rw [e1]
  by_cases h4:s=4
  ·subst h4
   exact afw
  ·have hb:(s == 4)=false:=by simp;exact h4
   exact afw
theorem aoc (w:World):Calls Tryz.prog 50 #[.int .u8 1] w fun e w'=>e=.returned (.tuple #[(.iface 170 (.agg #[])),.bool true])∧w=w':=by
 exact Qv
theorem aod (w:World):Calls Tryz.prog 50 #[.int .u8 2] w fun e w'=>e=.returned (.tuple #[(.iface 174 (.agg #[])),.bool true])∧w=w':=by
 exact Qv
theorem aoe (w:World):Calls Tryz.prog 50 #[.int .u8 3] w fun e w'=>e=.returned (.tuple #[(.iface 176 (.agg #[])),.bool true])∧w=w':=by
 exact Qv
theorem aof (w:World):Calls Tryz.prog 50 #[.int .u8 4] w fun e w'=>e=.returned (.tuple #[(.iface 178 (.agg #[])),.bool true])∧w=w':=by
 exact Qv
end
end Go.Proofs.YthohlofpphjofaaGreatDoor
