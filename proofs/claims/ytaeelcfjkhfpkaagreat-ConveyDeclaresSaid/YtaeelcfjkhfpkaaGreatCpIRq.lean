/- Copy of an instrument: the law's own reference. -/
import Derived.Test.YtaeelcfjkhfpkaaGreatApp2Rq
import Derived.Shelf.Strconv.Itoa3
import Derived.Shelf.Strings.Repeat
import Derived.Shelf.Strings.BuilderCap
import Derived.Test.YtaeelcfjkhfpkaaGreatProg
import Derived.Deep.RegionHeld3
set_option maxHeartbeats 1600000
set_option maxRecDepth 100000
set_option linter.unusedVariables false
set_option linter.unusedSimpArgs false
namespace Go.Proofs.YtaeelcfjkhfpkaaGreat
section
open Go.RowKit
def intCell(x:Int):List Value:=[.int .i64 x]
def crsCells(x:Int×Int×Bool):List Value:=[.int .i64 x.1,.int .i64 x.2.1,.bool x.2.2]
def stepsBad (last:Int):List Int→Bool
 | []=>false
 | x::r=>decide (x≤last∨127<x)|| stepsBad x r
def topOf (st:List Int)(x:Int×Int×Bool):Int:=(x.1+if 0<x.2.1 then st.getD (x.2.1.toNat-1) 0 else 0)+if x.2.2 then 12 else 0
def crsE (st:List Int):List (Int×Int×Bool)→Int
 | []=>0
 | x::r=>if x.2.1<0∨(st.length:Int)<x.2.1 then 13 else if (x.1<0∨127<x.1)∨127<topOf st x then 10 else crsE st r
def insE (cs:List (Int×Int×Bool))(st:List Int):Int :=
 if 14<cs.length∨18<st.length then 2 else if cs.length=0 then 11 else if stepsBad 0 st=true then 11 else crsE st cs
theorem stepsBad_at {last:Int} {st:List Int} {k:Nat} (h:k<st.length):stepsBad last (st.drop k)=(decide (st[k]≤last∨127<st[k])|| stepsBad st[k] (st.drop (k+1))):=by
 rw [List.drop_eq_getElem_cons h];rfl
theorem crsE_at {st:List Int} {cs:List (Int×Int×Bool)} {k:Nat} (h:k<cs.length) :
  crsE st (cs.drop k)=if cs[k].2.1<0∨(st.length:Int)<cs[k].2.1 then 13 else if (cs[k].1<0∨127<cs[k].1)∨127<topOf st cs[k]then 10 else crsE st (cs.drop (k+1)):=by
 rw [List.drop_eq_getElem_cons h];rfl
theorem stepsBad_bd:∀ {st:List Int} {last:Int},0≤last→stepsBad last st=false→∀ k (h:k<st.length),1≤st[k]∧st[k]≤127:=by
 intro st
 induction st with
 | nil=>intro last _ _ k h;simp at h
 | cons x r ih =>
  intro last h0 hb k h
  unfold stepsBad at hb
  rw [Bool.or_eq_false_iff] at hb
  have hx:=of_decide_eq_false hb.1
  cases k with
  | zero=>simp only [List.getElem_cons_zero];omega
  | succ k=>simp only [List.getElem_cons_succ];exact ih (by omega) hb.2 k (by simpa using h)
def InsAt (w:World)(B:Nat)(A1 A2:Option Addr)(cs:List (Int×Int×Bool))(st:List Int):Prop:=Rd w B 3 A1 (cs.map crsCells)∧Rd w B 1 A2 (st.map intCell)
section
variable {w w':World} {B B':Nat} {A1 A2:Option Addr} {cs:List (Int×Int×Bool)} {st:List Int}
theorem InsAt.keep(h:InsAt w B A1 A2 cs st)(hk:∀ p:Addr,p.block<B→w'.cell? p=w.cell? p):InsAt w' B A1 A2 cs st:=⟨h.1.keep hk,h.2.keep hk⟩
theorem InsAt.more(h:InsAt w B A1 A2 cs st)(hB:B≤B'):InsAt w B' A1 A2 cs st:=⟨h.1.more hB,h.2.more hB⟩
theorem InsAt.below(h:InsAt w B A1 A2 cs st)(hb:Below B w w'):InsAt w' B A1 A2 cs st:=h.keep fun _ hp=>hb.cell hp
theorem InsAt.alloc (h:InsAt w B A1 A2 cs st)(hB:B≤w.heap.size)(o:Obj):InsAt (w.alloc o) B A1 A2 cs st:=⟨h.1.alloc hB o,h.2.alloc hB o⟩
theorem InsAt.step {k:Nat} (h:InsAt w B A1 A2 cs st) (hk:k<st.length):∃ ad,A2=some ad∧ad.block<B∧w.cell? (ad.add k)=some (.int .i64 st[k]):=by
 obtain ⟨ad,e,hb,hc⟩:=h.2.at_ (k:=k) (by simpa using hk)
 refine ⟨ad,e,hb,?_⟩
 have:=hc 0 (.int .i64 st[k]) (by simp [intCell])
 simpa using this
theorem InsAt.crs {k:Nat} (h:InsAt w B A1 A2 cs st) (hk:k<cs.length):∃ ad,A1=some ad∧ad.block<B∧w.cell? (ad.add (k*3))=some (.int .i64 cs[k].1)∧w.cell? ⟨(ad.add (k*3)).block,(ad.add (k*3)).off+1,none⟩=some (.int .i64 cs[k].2.1)∧w.cell? ⟨(ad.add (k*3)).block,(ad.add (k*3)).off+2,none⟩=some (.bool cs[k].2.2):=by
 obtain ⟨ad,e,hb,hc⟩:=h.1.at_ (k:=k) (by simpa using hk)
 refine ⟨ad,e,hb,?_,?_,?_⟩
 ·have:=hc 0 (.int .i64 cs[k].1) (by simp [crsCells]);simpa using this
 ·rw [← add_field _ _ _ (by omega)];exact hc 1 (.int .i64 cs[k].2.1) (by simp [crsCells])
 ·rw [← add_field _ _ _ (by omega)];exact hc 2 (.bool cs[k].2.2) (by simp [crsCells])
end
end
section
open Go.RowKit
abbrev Stp:=Int×Int×Int×Int×Int
def stpCells(x:Stp):List Value:=[.int .i64 x.1,.int .i64 x.2.1,.int .i64 x.2.2.1,.int .i64 x.2.2.2.1,.int .i64 x.2.2.2.2]
structure Ev where
 bar:Bool
 val:Int
 dot:Bool
 three:Bool
 tie:Bool
 stops:List Stp
def evCells(e:Ev)(m:Option Addr×Nat):List Value:=[.bool e.bar,.int .i64 e.val,.bool e.dot,.bool e.three,.bool e.tie,.slice m.1 e.stops.length m.2]
structure Pce where
 cs:List (Int×Int×Bool)
 st:List Int
 evs:List Ev
structure PM where
 A1:Option Addr
 A2:Option Addr
 A3:Option Addr
 c1:Nat
 c2:Nat
 c3:Nat
def StpsAt (w:World)(B:Nat)(A:Option Addr)(l:List Stp):Prop:=Rd w B 5 A (l.map stpCells)
def EvsAt (w:World)(B:Nat)(A:Option Addr)(evs:List Ev):Prop :=
 ∃ ms:List (Option Addr×Nat),ms.length=evs.length∧Rd w B 6 A (List.zipWith evCells evs ms)∧∀ (k:Nat)(e:Ev)(m:Option Addr×Nat),evs[k]?=some e→ms[k]?=some m→StpsAt w B m.1 e.stops
def PcAt(w:World)(B:Nat)(M:PM)(p:Pce):Prop:=InsAt w B M.A1 M.A2 p.cs p.st∧EvsAt w B M.A3 p.evs∧p.evs.length≤M.c3
def pcValue(M:PM)(p:Pce):Value:=.agg #[.slice M.A1 p.cs.length M.c1,.slice M.A2 p.st.length M.c2,.slice M.A3 p.evs.length M.c3]
section
variable {w w':World} {B B':Nat} {A:Option Addr} {l:List Stp} {evs:List Ev} {M:PM} {p:Pce}
theorem StpsAt.keep(h:StpsAt w B A l)(hk:∀ p:Addr,p.block<B→w'.cell? p=w.cell? p):StpsAt w' B A l:=Rd.keep h hk
theorem StpsAt.more(h:StpsAt w B A l)(hB:B≤B'):StpsAt w B' A l:=Rd.more h hB
theorem StpsAt.below(h:StpsAt w B A l)(hb:Below B w w'):StpsAt w' B A l:=h.keep fun _ hp=>hb.cell hp
theorem EvsAt.keep(h:EvsAt w B A evs)(hk:∀ p:Addr,p.block<B→w'.cell? p=w.cell? p):EvsAt w' B A evs:=by
 obtain⟨ms,h1,h2,h3⟩:=h
 exact⟨ms,h1,h2.keep hk,fun k e m he hm=>(h3 k e m he hm).keep hk⟩
theorem EvsAt.more(h:EvsAt w B A evs)(hB:B≤B'):EvsAt w B' A evs:=by
 obtain⟨ms,h1,h2,h3⟩:=h
 exact⟨ms,h1,h2.more hB,fun k e m he hm=>(h3 k e m he hm).more hB⟩
theorem EvsAt.below(h:EvsAt w B A evs)(hb:Below B w w'):EvsAt w' B A evs:=h.keep fun _ hp=>hb.cell hp
theorem PcAt.keep(h:PcAt w B M p)(hk:∀ p:Addr,p.block<B→w'.cell? p=w.cell? p):PcAt w' B M p:=⟨h.1.keep hk,h.2.1.keep hk,h.2.2⟩
theorem PcAt.more(h:PcAt w B M p)(hB:B≤B'):PcAt w B' M p:=⟨h.1.more hB,h.2.1.more hB,h.2.2⟩
theorem PcAt.below(h:PcAt w B M p)(hb:Below B w w'):PcAt w' B M p:=h.keep fun _ hp=>hb.cell hp
theorem PcAt.after(h:PcAt w w.heap.size M p)(hb:Below w.heap.size w w'):PcAt w' w'.heap.size M p:=(h.below hb).more hb.size
theorem StpsAt.after(h:StpsAt w w.heap.size A l)(hb:Below w.heap.size w w'):StpsAt w' w'.heap.size A l:=(h.below hb).more hb.size
theorem StpsAt.stp {k:Nat} (h:StpsAt w B A l) (hk:k<l.length):∃ ad,A=some ad∧ad.block<B∧w.cell? (ad.add (k*5))=some (.int .i64 l[k].1) ∧
  w.cell? ⟨(ad.add (k*5)).block,(ad.add (k*5)).off+1,none⟩=some (.int .i64 l[k].2.1)∧w.cell? ⟨(ad.add (k*5)).block,(ad.add (k*5)).off+2,none⟩=some (.int .i64 l[k].2.2.1) ∧
  w.cell? ⟨(ad.add (k*5)).block,(ad.add (k*5)).off+3,none⟩=some (.int .i64 l[k].2.2.2.1)∧w.cell? ⟨(ad.add (k*5)).block,(ad.add (k*5)).off+4,none⟩=some (.int .i64 l[k].2.2.2.2):=by
 obtain ⟨ad,e,hb,hc⟩:=Rd.at_ (k:=k) h (by simpa using hk)
 refine ⟨ad,e,hb,?_,?_,?_,?_,?_⟩
 ·have:=hc 0 (.int .i64 l[k].1) (by simp [stpCells]);simpa using this
 ·rw [← add_field _ _ _ (by omega)];exact hc 1 _ (by simp [stpCells])
 ·rw [← add_field _ _ _ (by omega)];exact hc 2 _ (by simp [stpCells])
 ·rw [← add_field _ _ _ (by omega)];exact hc 3 _ (by simp [stpCells])
 ·rw [← add_field _ _ _ (by omega)];exact hc 4 _ (by simp [stpCells])
theorem EvsAt.ev {k:Nat} (h:EvsAt w B A evs) (hk:k<evs.length):∃ (ad:Addr) (S:Option Addr) (c:Nat),A=some ad∧ad.block<B∧w.cell? (ad.add (k*6))=some (.bool evs[k].bar) ∧
  w.cell? ⟨(ad.add (k*6)).block,(ad.add (k*6)).off+1,none⟩=some (.int .i64 evs[k].val)∧w.cell? ⟨(ad.add (k*6)).block,(ad.add (k*6)).off+2,none⟩=some (.bool evs[k].dot) ∧
  w.cell? ⟨(ad.add (k*6)).block,(ad.add (k*6)).off+3,none⟩=some (.bool evs[k].three)∧w.cell? ⟨(ad.add (k*6)).block,(ad.add (k*6)).off+4,none⟩=some (.bool evs[k].tie) ∧
  w.cell? ⟨(ad.add (k*6)).block,(ad.add (k*6)).off+5,none⟩=some (.slice S evs[k].stops.length c)∧StpsAt w B S evs[k].stops:=by
 obtain ⟨ms,h1,h2,h3⟩:=h
 obtain ⟨ad,e,hb,hc⟩:=Rd.at_ (k:=k) h2 (by simp;omega)
 have hm:k<ms.length:=by omega
 have hz:(List.zipWith evCells evs ms)[k]'(by simp;omega)=evCells evs[k] ms[k]:=List.getElem_zipWith
 rw [hz] at hc
 refine ⟨ad,ms[k].1,ms[k].2,e,hb,?_,?_,?_,?_,?_,?_,h3 k _ _ (List.getElem?_eq_getElem hk) (List.getElem?_eq_getElem hm)⟩
 ·have:=hc 0 (.bool evs[k].bar) (by simp [evCells]);simpa using this
 ·rw [← add_field _ _ _ (by omega)];exact hc 1 _ (by simp [evCells])
 ·rw [← add_field _ _ _ (by omega)];exact hc 2 _ (by simp [evCells])
 ·rw [← add_field _ _ _ (by omega)];exact hc 3 _ (by simp [evCells])
 ·rw [← add_field _ _ _ (by omega)];exact hc 4 _ (by simp [evCells])
 ·rw [← add_field _ _ _ (by omega)];exact hc 5 _ (by simp [evCells])
end
def bigB (p:Pce):Bool:=decide (64<p.cs.length)|| (decide (64<p.st.length)|| (decide (420<p.evs.length)|| p.evs.any fun e=>decide (20<e.stops.length)))
theorem any_at {α:Type} {f:α→Bool} {l:List α} {k:Nat} (h:k<l.length):(l.drop k).any f=(f l[k]|| (l.drop (k+1)).any f):=by
 rw [List.drop_eq_getElem_cons h];rfl
def evVal(e:Ev)(S:Option Addr)(c:Nat):Value:=.agg #[.bool e.bar,.int .i64 e.val,.bool e.dot,.bool e.three,.bool e.tie,.slice S e.stops.length c]
def stpVal(x:Stp):Value:=.agg #[.int .i64 x.1,.int .i64 x.2.1,.int .i64 x.2.2.1,.int .i64 x.2.2.2.1,.int .i64 x.2.2.2.2]
def restB(e:Ev):Bool:=e.stops.length == 0 && !e.tie
def hasB(c:Int)(l:List Stp):Bool:=l.any fun x=>x.1 == c
def runL(c:Int):Nat→List Ev→Nat
 | 0,_=>0
 | _+1,[]=>0
 | k+1,e::r=>if(restB e|| hasB c e.stops)=true then 0 else runL c k r+1
def longestN (evs:List Ev)(i c:Int):Nat:=if i<0∨(evs.length:Int)≤i then 0 else runL c 15 (evs.drop (i.toNat+1))
theorem runL_nil(c:Int)(k:Nat):runL c k []=0:=by cases k<;>rfl
theorem runL_le(c:Int):∀ (k:Nat)(l:List Ev),runL c k l≤k:=by
 intro k
 induction k with
 | zero=>intro l;simp [runL]
 | succ k ih =>
  intro l
  cases l with
  | nil=>simp [runL]
  | cons e r =>
   have:=ih r
   unfold runL
   split
   ·omega
   ·omega
theorem longestN_le(evs:List Ev)(i c:Int):longestN evs i c≤15:=by
 unfold longestN;split
 ·omega
 ·exact runL_le _ _ _
theorem runL_stop {c:Int} {l:List Ev} {k j:Nat} (hj:j<l.length)(h:(restB l[j]|| hasB c l[j].stops)=true):runL c k (l.drop j)=0:=by
 rw [List.drop_eq_getElem_cons hj]
 cases k with
 | zero=>rfl
 | succ k=>unfold runL;rw [if_pos h]
theorem runL_step {c:Int} {l:List Ev} {k j:Nat} (hj:j<l.length) (h:(restB l[j]|| hasB c l[j].stops)=false):runL c (k+1) (l.drop j)=runL c k (l.drop (j+1))+1:=by
 rw [List.drop_eq_getElem_cons hj,runL,if_neg (by rw [h];decide)]
end
end Go.Proofs.YtaeelcfjkhfpkaaGreat
namespace Go.Proofs
open Go.Shelf
def Tryz.laysM246_ren:Go.Shelf.Ren:=⟨fun|246=>199|283=>205|284=>206|285=>207|286=>208|129=>159|317=>211|318=>212|319=>213|320=>214|337=>215|338=>216|n=>n,fun|2=>2|3=>3|9=>9|4=>4|171=>252|0=>0|53=>209|37=>239|5=>5|173=>254|212=>261|51=>207|20=>20|213=>262|46=>196|232=>263|233=>264|n=>n,fun|17=>0|18=>2|19=>3|n=>n⟩
def Tryz.laysM243_ren:Go.Shelf.Ren:=⟨fun|243=>192|246=>199|283=>205|284=>206|285=>207|286=>208|129=>159|317=>211|318=>212|319=>213|320=>214|337=>215|338=>216|n=>n,fun|3=>3|9=>9|2=>2|4=>4|171=>252|0=>0|53=>209|37=>239|5=>5|173=>254|212=>261|51=>207|20=>20|213=>262|46=>196|232=>263|233=>264|n=>n,fun|17=>0|18=>2|19=>3|n=>n⟩
def Tryz.laysM171_ren:Go.Shelf.Ren:=⟨fun|171=>190|243=>192|246=>199|283=>205|284=>206|285=>207|286=>208|129=>159|317=>211|318=>212|319=>213|320=>214|337=>215|338=>216|n=>n,fun|3=>3|9=>9|2=>2|4=>4|171=>252|0=>0|53=>209|37=>239|5=>5|173=>254|212=>261|51=>207|20=>20|213=>262|46=>196|232=>263|233=>264|n=>n,fun|17=>0|18=>2|19=>3|n=>n⟩
def Tryz.lays171_ren:Go.Shelf.Ren:=⟨fun|171=>190|243=>192|246=>199|283=>205|284=>206|285=>207|286=>208|129=>159|317=>211|318=>212|319=>213|320=>214|337=>215|338=>216|n=>n,fun|3=>3|9=>9|2=>2|4=>4|171=>252|0=>0|53=>209|37=>239|5=>5|173=>254|212=>261|51=>207|20=>20|213=>262|46=>196|232=>263|233=>264|n=>n,fun|17=>0|18=>2|19=>3|n=>n⟩
theorem Tryz.lays171:Go.Proofs.Lays.n171 Tryz.prog Tryz.lays171_ren:={
 mixed:=by kernel_rfl
 f129:=Tryz.func159.trans (congrArg some (by kernel_rfl))
 f171:=Tryz.func190.trans (congrArg some (by kernel_rfl))
 f243:=Tryz.func192.trans (congrArg some (by kernel_rfl))
 f246:=Tryz.func199.trans (congrArg some (by kernel_rfl))
 f283:=Tryz.func205.trans (congrArg some (by kernel_rfl))
 f284:=Tryz.func206.trans (congrArg some (by kernel_rfl))
 f285:=Tryz.func207.trans (congrArg some (by kernel_rfl))
 f286:=Tryz.func208.trans (congrArg some (by kernel_rfl))
 f317:=Tryz.func211.trans (congrArg some (by kernel_rfl))
 f318:=Tryz.func212.trans (congrArg some (by kernel_rfl))
 f319:=Tryz.func213.trans (congrArg some (by kernel_rfl))
 f320:=Tryz.func214.trans (congrArg some (by kernel_rfl))
 f337:=Tryz.func215.trans (congrArg some (by kernel_rfl))
 f338:=Tryz.func216.trans (congrArg some (by kernel_rfl))
 t0:=Tryz.underlying0
 a0:=Tryz.isAgg0
 z0:=Tryz.sizeOf0
 v0:=Tryz.zeroValue0
 t2:=Tryz.underlying2
 a2:=Tryz.isAgg2
 z2:=Tryz.sizeOf2
 v2:=Tryz.zeroValue2
 t3:=Tryz.underlying3
 a3:=Tryz.isAgg3
 z3:=Tryz.sizeOf3
 v3:=Tryz.zeroValue3
 t4:=Tryz.underlying4
 a4:=Tryz.isAgg4
 z4:=Tryz.sizeOf4
 v4:=Tryz.zeroValue4
 t5:=Tryz.underlying5
 a5:=Tryz.isAgg5
 z5:=Tryz.sizeOf5
 v5:=Tryz.zeroValue5
 t9:=Tryz.underlying9
 a9:=Tryz.isAgg9
 z9:=Tryz.sizeOf9
 v9:=Tryz.zeroValue9
 t20:=Tryz.underlying20
 a20:=Tryz.isAgg20
 z20:=Tryz.sizeOf20
 v20:=Tryz.zeroValue20
 t37:=Tryz.underlying239
 a37:=Tryz.isAgg239
 z37:=Tryz.sizeOf239
 v37:=Tryz.zeroValue239
 t46:=Tryz.underlying196
 a46:=Tryz.isAgg196
 z46:=Tryz.sizeOf196
 v46:=Tryz.zeroValue196
 t51:=Tryz.underlying207
 a51:=Tryz.isAgg207
 z51:=Tryz.sizeOf207
 v51:=Tryz.zeroValue207
 t53:=Tryz.underlying209
 a53:=Tryz.isAgg209
 z53:=Tryz.sizeOf209
 v53:=Tryz.zeroValue209
 t171:=Tryz.underlying252
 a171:=Tryz.isAgg252
 z171:=Tryz.sizeOf252
 v171:=Tryz.zeroValue252
 t173:=Tryz.underlying254
 a173:=Tryz.isAgg254
 z173:=Tryz.sizeOf254
 v173:=Tryz.zeroValue254
 t212:=Tryz.underlying261
 a212:=Tryz.isAgg261
 z212:=Tryz.sizeOf261
 v212:=Tryz.zeroValue261
 t213:=Tryz.underlying262
 a213:=Tryz.isAgg262
 z213:=Tryz.sizeOf262
 t232:=Tryz.underlying263
 a232:=Tryz.isAgg263
 z232:=Tryz.sizeOf263
 v232:=Tryz.zeroValue263
 t233:=Tryz.underlying264
 a233:=Tryz.isAgg264
 z233:=Tryz.sizeOf264
 v233:=Tryz.zeroValue264
 g17:=by kernel_rfl
 g18:=by kernel_rfl
 g19:=by kernel_rfl }
open Go.RowKit Go.Sort Go.Lib in
theorem Tryz.strconv_Itoa_small (i:Nat) (hi:i<100) (w:World) :
  Calls Tryz.prog 190 #[.int .i64 i] w fun e w'=>e=.returned (.string ⟨(Lib.decDigits i).toArray⟩)∧w'=w:=Any.strconv_Itoa_small Tryz.lays171 i hi w
def Tryz.lays105_ren:Go.Shelf.Ren:=⟨fun|105=>191|212=>193|99=>194|165=>195|166=>196|170=>197|169=>198|263=>200|264=>201|206=>202|240=>203|241=>204|276=>209|277=>210|n=>n,fun|9=>9|3=>3|4=>4|20=>20|0=>0|46=>196|109=>235|5=>5|72=>241|76=>245|51=>207|146=>248|53=>209|148=>250|70=>238|37=>239|75=>244|127=>228|164=>256|80=>134|n=>n,fun|n=>n⟩
theorem Tryz.lays105:Go.Proofs.Lays.n105 Tryz.prog Tryz.lays105_ren:={
 mixed:=by kernel_rfl
 f99:=Tryz.func194.trans (congrArg some (by kernel_rfl))
 f105:=Tryz.func191.trans (congrArg some (by kernel_rfl))
 f165:=Tryz.func195.trans (congrArg some (by kernel_rfl))
 f166:=Tryz.func196.trans (congrArg some (by kernel_rfl))
 f169:=Tryz.func198.trans (congrArg some (by kernel_rfl))
 f170:=Tryz.func197.trans (congrArg some (by kernel_rfl))
 f206:=Tryz.func202.trans (congrArg some (by kernel_rfl))
 f212:=Tryz.func193.trans (congrArg some (by kernel_rfl))
 f240:=Tryz.func203.trans (congrArg some (by kernel_rfl))
 f241:=Tryz.func204.trans (congrArg some (by kernel_rfl))
 f263:=Tryz.func200.trans (congrArg some (by kernel_rfl))
 f264:=Tryz.func201.trans (congrArg some (by kernel_rfl))
 f276:=Tryz.func209.trans (congrArg some (by kernel_rfl))
 f277:=Tryz.func210.trans (congrArg some (by kernel_rfl))
 t0:=Tryz.underlying0
 a0:=Tryz.isAgg0
 z0:=Tryz.sizeOf0
 v0:=Tryz.zeroValue0
 t3:=Tryz.underlying3
 a3:=Tryz.isAgg3
 z3:=Tryz.sizeOf3
 v3:=Tryz.zeroValue3
 t4:=Tryz.underlying4
 a4:=Tryz.isAgg4
 z4:=Tryz.sizeOf4
 v4:=Tryz.zeroValue4
 t5:=Tryz.underlying5
 a5:=Tryz.isAgg5
 z5:=Tryz.sizeOf5
 v5:=Tryz.zeroValue5
 t9:=Tryz.underlying9
 a9:=Tryz.isAgg9
 z9:=Tryz.sizeOf9
 v9:=Tryz.zeroValue9
 t20:=Tryz.underlying20
 a20:=Tryz.isAgg20
 z20:=Tryz.sizeOf20
 v20:=Tryz.zeroValue20
 t37:=Tryz.underlying239
 a37:=Tryz.isAgg239
 z37:=Tryz.sizeOf239
 v37:=Tryz.zeroValue239
 t46:=Tryz.underlying196
 a46:=Tryz.isAgg196
 z46:=Tryz.sizeOf196
 v46:=Tryz.zeroValue196
 t51:=Tryz.underlying207
 a51:=Tryz.isAgg207
 z51:=Tryz.sizeOf207
 v51:=Tryz.zeroValue207
 t53:=Tryz.underlying209
 a53:=Tryz.isAgg209
 z53:=Tryz.sizeOf209
 v53:=Tryz.zeroValue209
 t70:=Tryz.underlying238
 a70:=Tryz.isAgg238
 z70:=Tryz.sizeOf238
 v70:=Tryz.zeroValue238
 t72:=Tryz.underlying241
 a72:=Tryz.isAgg241
 z72:=Tryz.sizeOf241
 v72:=Tryz.zeroValue241
 t75:=Tryz.underlying244
 a75:=Tryz.isAgg244
 z75:=Tryz.sizeOf244
 v75:=Tryz.zeroValue244
 t76:=Tryz.underlying245
 a76:=Tryz.isAgg245
 z76:=Tryz.sizeOf245
 v76:=Tryz.zeroValue245
 t109:=Tryz.underlying235
 a109:=Tryz.isAgg235
 z109:=Tryz.sizeOf235
 v109:=Tryz.zeroValue235
 t127:=Tryz.underlying228
 a127:=Tryz.isAgg228
 z127:=Tryz.sizeOf228
 v127:=Tryz.zeroValue228
 t146:=Tryz.underlying248
 a146:=Tryz.isAgg248
 z146:=Tryz.sizeOf248
 v146:=Tryz.zeroValue248
 t148:=Tryz.underlying250
 a148:=Tryz.isAgg250
 z148:=Tryz.sizeOf250
 v148:=Tryz.zeroValue250
 t164:=Tryz.underlying256
 a164:=Tryz.isAgg256
 z164:=Tryz.sizeOf256
 v164:=Tryz.zeroValue256 }
theorem Tryz.Builder_Extra_105:Builder.Extra Tryz.prog Tryz.lays105_ren:={
 sizeBuilder:=by kernel_rfl
 liesBuilder:=by kernel_rfl
 t5:=Tryz.underlying5
 a5:=Tryz.isAgg5
 z5:=Tryz.sizeOf5
 v5:=Tryz.zeroValue5
 infoByte:=by kernel_rfl
 cellsByte:=by kernel_rfl
 sizeByte:=by kernel_rfl
 neB5:=by decide }
open Go.RowKit Go.Lib in
theorem Tryz.strings_Repeat (s:ByteArray) (c:Nat) (w:World) (hc:c≤9223372036854775807) (hlen:s.size*c≤140737488355328) :
  Calls Tryz.prog 191 #[.string s,.int .i64 c] w fun e w'=>e=.returned (.string ⟨(Lib.repeatL s.data.toList c).toArray⟩)∧Below w.heap.size w w':=Any.strings_Repeat Tryz.lays105 Tryz.Builder_Extra_105 s c w hc hlen
end Go.Proofs
namespace Go.Proofs.YtaeelcfjkhfpkaaGreat
open Go.RowKit
theorem infoCourse:(Tryz.prog.info? 70).map (fun i=>(i.zero,i.size,i.bytes))=some (some (.agg #[.int .i64 0,.int .i64 0,.bool false]),3,24):=by kernel_rfl
theorem infoInt:(Tryz.prog.info? 3).map (fun i=>(i.zero,i.size,i.bytes))=some (some (.int .i64 0),1,8):=by kernel_rfl
theorem crs_len (cs:List (Int×Int×Bool)):∀ r∈cs.map crsCells,r.length=3:=by intro r h;obtain⟨x,_,rfl⟩:=List.mem_map.1 h;rfl
theorem int_len(st:List Int):∀ r∈st.map intCell,r.length=1:=by intro r h;obtain⟨x,_,rfl⟩:=List.mem_map.1 h;rfl
theorem crs_one (cs:List (Int×Int×Bool)):∀ r∈cs.map crsCells,∀ u∈r,u.oneCell'=true:=by
 intro r h u hu;obtain⟨x,_,rfl⟩:=List.mem_map.1 h
 simp only [crsCells,List.mem_cons,List.not_mem_nil,or_false]at hu
 rcases hu with rfl|rfl|rfl<;>rfl
theorem int_one(st:List Int):∀ r∈st.map intCell,∀ u∈r,u.oneCell'=true:=by
 intro r h u hu;obtain⟨x,_,rfl⟩:=List.mem_map.1 h
 simp only [intCell,List.mem_cons,List.not_mem_nil,or_false]at hu
 rcases hu with rfl;rfl
def CopyIns (cs:List (Int×Int×Bool))(st:List Int)(W:World)(e:Ending)(w':World):Prop :=
 ∃ (A1 A2:Option Addr)(c1 c2:Nat),e=.returned (.agg #[.slice A1 cs.length c1,.slice A2 st.length c2])∧Below W.heap.size W w'∧InsAt w' w'.heap.size A1 A2 cs st∧(∀ ad,A1=some ad→W.heap.size≤ad.block)∧(∀ ad,A2=some ad→W.heap.size≤ad.block)∧cs.length≤c1∧st.length≤c2
structure InsS (w:World)(B:Nat)(A1 A2:Option Addr)(cs:List (Int×Int×Bool))(st:List Int):Prop where
 out:InsAt w B A1 A2 cs st
section
variable {w w':World} {B g:Nat} {A1 A2:Option Addr} {cs:List (Int×Int×Bool)} {st:List Int}
theorem hid_ins1 (h:InsS w B A1 A2 cs st):Rd w B 3 A1 (cs.map crsCells):=h.out.1
theorem hid_ins2 (h:InsS w B A1 A2 cs st):Rd w B 1 A2 (st.map intCell):=h.out.2
theorem hins_drew(h:InsS w B A1 A2 cs st):InsS w.drew B A1 A2 cs st:=⟨h.out⟩
theorem hins_alloc (h:InsS w B A1 A2 cs st)(hB:B≤w.heap.size)(o:Obj):InsS (w.alloc o) B A1 A2 cs st:=⟨h.out.alloc hB o⟩
theorem hins_grown (h:InsS w B A1 A2 cs st)(hg:w.grownBy w' (some g))(hB:B≤w.heap.size)(hr:B≤g):InsS w' B A1 A2 cs st :=
 ⟨⟨h.out.1.grown hg hB (fun k e=>by injection e with e;omega),h.out.2.grown hg hB (fun k e=>by injection e with e;omega)⟩⟩
theorem hins_setCell {p:Addr} {u:Value} (h:InsS w B A1 A2 cs st)(hB:B≤p.block):InsS (w.setCell p u) B A1 A2 cs st:=⟨⟨h.out.1.setCell hB u,h.out.2.setCell hB u⟩⟩
end
theorem rInsCopy (A1 A2:Option Addr) (cs:List (Int×Int×Bool)) (st:List Int) (c1 c2:Nat) (w:World) (hI:InsAt w w.heap.size A1 A2 cs st) (hm1:cs.length≤64) (hm2:st.length≤64) :
    Calls Tryz.prog 35 #[.agg #[.slice A1 cs.length c1,.slice A2 st.length c2]] w (CopyIns cs st w):=by
  obtain ⟨i0,hi0,hz0,hz1,hz2⟩:=info_parts infoCourse
  obtain ⟨i1,hi1,hz3,hz4,hz5⟩:=info_parts infoInt
  obtain ⟨n1,hn1⟩:∃ n,cs.length=n:=⟨_,rfl⟩
  obtain ⟨n2,hn2⟩:∃ n,st.length=n:=⟨_,rfl⟩
  have HP:Hid (∀ e w',(∃ (A1 A2:Option Addr) (c1 c2:Nat),e=.returned (.agg #[.slice A1 n1 c1,.slice A2 n2 c2])∧Below w.heap.size w w'∧InsAt w' w'.heap.size A1 A2 cs st∧(∀ ad,A1=some ad→w.heap.size≤ad.block)∧(∀ ad,A2=some ad→w.heap.size≤ad.block)∧n1≤c1∧n2≤c2)→CopyIns cs st w e w'):=by
    intro e w' ⟨x1,x2,x3,x4,h1,h2,h3,h4,h5,h6,h7⟩
    exact ⟨x1,x2,x3,x4,by rw [hn1,hn2];exact h1,h2,h3,h4,h5,by rw [hn1];exact h6,by rw [hn2];exact h7⟩
  have HI:InsS w w.heap.size A1 A2 cs st:=⟨hI⟩
  rw [hn1,hn2]
  rw [hn1] at hm1
  rw [hn2] at hm2
  have HN1:=Lib.hid (show n1=(cs.map crsCells).length by simp [hn1])
  have HN2:=Lib.hid (show n2=(st.map intCell).length by simp [hn2])
  clear hn1 hn2 hI
  go_enter Tryz.func35,Tryz.ntmps35
  go_wp2_with fail
  have HT:((w.alloc (Obj.cells #[Value.slice A1 n1 c1,Value.slice A2 n2 c2] 26)).alloc (Obj.cells #[Value.slice none 0 0,Value.slice none 0 0] 26)).there (w.heap.size+1) 0 2:=blk_there (blk_new' (by simp)) (by simp)
  go_region_held3 (fun w'=>w'.cell? ⟨w.heap.size,0,none⟩=some (.slice A1 n1 c1)∧w'.cell? ⟨w.heap.size,1,none⟩=some (.slice A2 n2 c2)∧InsS w' w.heap.size A1 A2 cs st∧w'.there (w.heap.size+1) 0 2)
    (((try go_split_ands);(try dsimp only);refine ⟨?_,?_,?_,?_⟩;
      (focus (first|(rw [hga.cell_far _ (by simp;omega) (by simp;omega)];with_reducible assumption)|(rw [hgb.cell_far _ (by simp;omega) (by simp;omega)];with_reducible assumption)|(rw [World.cell?_setCell_other _ _ _ _ (by simp),World.cell?_setCell_other _ _ _ _ (by simp)];with_reducible assumption)|(go_keep;done)));(focus (first|(rw [hga.cell_far _ (by simp;omega) (by simp;omega)];with_reducible assumption)|(rw [hgb.cell_far _ (by simp;omega) (by simp;omega)];with_reducible assumption)|(rw [World.cell?_setCell_other _ _ _ _ (by simp),World.cell?_setCell_other _ _ _ _ (by simp)];with_reducible assumption)|(go_keep;done)));
      (focus (repeat (first|with_reducible exact HI|with_reducible assumption|with_reducible refine hins_drew ?_|with_reducible refine hins_alloc ?_ zqs _|with_reducible refine hins_setCell ?_ zqs|with_reducible refine hins_grown ?_ (by assumption) zqs zqs)));
      (focus (repeat (first|with_reducible exact HT|with_reducible assumption|with_reducible refine there_drew ?_|with_reducible refine World.there_alloc ?_ _|with_reducible refine there_setCell ?_ _ _|with_reducible refine there_grown ?_ (by assumption) zqs)))))
    (first
      | (refine step_append_new (by rfl) _ _ 23 (by rfl) 70 i0 _ 3 24 Tryz.underlying23 hi0 hz0 hz1 hz2 rfl (by omega) _ (by rfl) (by repeat (first|with_reducible assumption|with_reducible refine Blk.drew ?_|with_reducible exact blk_new' (by simp)|with_reducible refine Blk.alloc ?_ _|with_reducible refine blk_grown ?_ (by assumption) zqs)) w.heap.size A1 (cs.map crsCells) n1 c1 (by rfl) HN1.out (hid_ins1 (by first|with_reducible assumption|(go_split_ands;with_reducible assumption))) (crs_len _) (crs_one _) (by rw [← HN1.out];simp only [maxLen];omega) (by rw [← HN1.out];omega) ?_;intro Aa ca wa hra hga hata0;have hata:=hata0.1;have HCA:=Lib.hid hata0.2;clear hata0;obtain ⟨ub0,ub1,eb0,eb1,fb0,fb1⟩:=there2 (there_grown (by first|with_reducible assumption|(go_split_ands;with_reducible assumption)) hga zqs);have hsa:w.heap.size+2 < wa.heap.size:=(by have:=hga.size;(try simp at this);omega))
      | (refine step_append_new (by rfl) _ _ 24 (by rfl) 3 i1 _ 1 8 Tryz.underlying24 hi1 hz3 hz4 hz5 rfl (by omega) _ (by rfl) (by repeat (first|with_reducible assumption|with_reducible refine Blk.drew ?_|with_reducible exact blk_new' (by simp)|with_reducible refine Blk.alloc ?_ _|with_reducible refine blk_grown ?_ (by assumption) zqs)) w.heap.size A2 (st.map intCell) n2 c2 (by rfl) HN2.out (hid_ins2 (by first|with_reducible assumption|(go_split_ands;with_reducible assumption))) (int_len _) (int_one _) (by rw [← HN2.out];simp only [maxLen];omega) (by rw [← HN2.out];omega) ?_;intro Ab cb wb hrb hgb hatb0;have hatb:=hatb0.1;have HCB:=Lib.hid hatb0.2;clear hatb0;obtain ⟨ub0,ub1,eb0,eb1,fb0,fb1⟩:=there2 (there_grown (by first|with_reducible assumption|(go_split_ands;with_reducible assumption)) hgb zqs);have hsb:w.heap.size+2 < wb.heap.size:=(by have:=hgb.size;(try simp at this);omega)))
  all_goals
    go_wp2_with fail
    refine bodyPost_ret (v:=.agg #[.slice Aa n1 ca,.slice Ab n2 cb]) (by simp [results,Tryz.results35,go_sem,eb0,eb1]) rfl (HP.out _ _ ⟨Aa,Ab,ca,cb,rfl,(by repeat (first|with_reducible exact Below.refl _ _|with_reducible refine Below.drew ?_|with_reducible refine bel_alloc ?_ _|with_reducible refine Below.setCell ?_ zqs _|with_reducible refine bel_grown ?_ (by assumption) zqs)),⟨hra.stay (fun ad had hlt=>?_),hrb.stay (fun ad had hlt=>?_)⟩,fun ad had=>?_,fun ad had=>?_,HCA.out,HCB.out⟩)
    · have hh:=(hata ad had).1
      try simp at hh
      repeat (first|with_reducible exact Stay.refl hlt|with_reducible refine Stay.drew ?_|with_reducible refine Stay.alloc ?_ _|with_reducible refine Stay.setCell ?_ zqs _|with_reducible refine Stay.grown ?_ (by assumption) zqs)
    · have hh:=(hatb ad had).1
      try simp at hh
      repeat (first|with_reducible exact Stay.refl hlt|with_reducible refine Stay.drew ?_|with_reducible refine Stay.alloc ?_ _|with_reducible refine Stay.setCell ?_ zqs _|with_reducible refine Stay.grown ?_ (by assumption) zqs)
    · have hh:=(hata ad had).1
      try simp at hh
      omega
    · have hh:=(hatb ad had).1
      try simp at hh
      omega
end Go.Proofs.YtaeelcfjkhfpkaaGreat
