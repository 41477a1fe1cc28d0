/- A region that draws its order, whose calls make memory and leave all that was there: one walk of the lexical order. -/
import Derived.Test.YtaeelcfjkhfpkaaGreatRefSq
set_option maxHeartbeats 1600000
set_option maxRecDepth 100000
set_option linter.unusedVariables false
set_option linter.unusedSimpArgs false
namespace Go.Proofs.YtaeelcfjkhfpkaaGreat
section
open Go.RowKit
def intCell(x:Int):List Value:=[.int .i64 x]
def crsCells(x:Int×Int×Bool):List Value:=[.int .i64 x.1,.int .i64 x.2.1,.bool x.2.2]
def stepsBad (last:Int):List Int→Bool
 | []=>false
 | x::r=>decide (x≤last∨127<x)|| stepsBad x r
def topOf (st:List Int)(x:Int×Int×Bool):Int:=(x.1+if 0<x.2.1 then st.getD (x.2.1.toNat-1) 0 else 0)+if x.2.2 then 12 else 0
def crsE (st:List Int):List (Int×Int×Bool)→Int
 | []=>0
 | x::r=>if x.2.1<0∨(st.length:Int)<x.2.1 then 13 else if (x.1<0∨127<x.1)∨127<topOf st x then 10 else crsE st r
def insE (cs:List (Int×Int×Bool))(st:List Int):Int :=
 if 14<cs.length∨18<st.length then 2 else if cs.length=0 then 11 else if stepsBad 0 st=true then 11 else crsE st cs
theorem stepsBad_at {last:Int} {st:List Int} {k:Nat} (h:k<st.length):stepsBad last (st.drop k)=(decide (st[k]≤last∨127<st[k])|| stepsBad st[k] (st.drop (k+1))):=by
 rw [List.drop_eq_getElem_cons h];rfl
theorem crsE_at {st:List Int} {cs:List (Int×Int×Bool)} {k:Nat} (h:k<cs.length) :
  crsE st (cs.drop k)=if cs[k].2.1<0∨(st.length:Int)<cs[k].2.1 then 13 else if (cs[k].1<0∨127<cs[k].1)∨127<topOf st cs[k]then 10 else crsE st (cs.drop (k+1)):=by
 rw [List.drop_eq_getElem_cons h];rfl
theorem stepsBad_bd:∀ {st:List Int} {last:Int},0≤last→stepsBad last st=false→∀ k (h:k<st.length),1≤st[k]∧st[k]≤127:=by
 intro st
 induction st with
 | nil=>intro last _ _ k h;simp at h
 | cons x r ih =>
  intro last h0 hb k h
  unfold stepsBad at hb
  rw [Bool.or_eq_false_iff] at hb
  have hx:=of_decide_eq_false hb.1
  cases k with
  | zero=>simp only [List.getElem_cons_zero];omega
  | succ k=>simp only [List.getElem_cons_succ];exact ih (by omega) hb.2 k (by simpa using h)
def InsAt (w:World)(B:Nat)(A1 A2:Option Addr)(cs:List (Int×Int×Bool))(st:List Int):Prop:=Rd w B 3 A1 (cs.map crsCells)∧Rd w B 1 A2 (st.map intCell)
section
variable {w w':World} {B B':Nat} {A1 A2:Option Addr} {cs:List (Int×Int×Bool)} {st:List Int}
theorem InsAt.keep(h:InsAt w B A1 A2 cs st)(hk:∀ p:Addr,p.block<B→w'.cell? p=w.cell? p):InsAt w' B A1 A2 cs st:=⟨h.1.keep hk,h.2.keep hk⟩
theorem InsAt.more(h:InsAt w B A1 A2 cs st)(hB:B≤B'):InsAt w B' A1 A2 cs st:=⟨h.1.more hB,h.2.more hB⟩
theorem InsAt.below(h:InsAt w B A1 A2 cs st)(hb:Below B w w'):InsAt w' B A1 A2 cs st:=h.keep fun _ hp=>hb.cell hp
theorem InsAt.alloc (h:InsAt w B A1 A2 cs st)(hB:B≤w.heap.size)(o:Obj):InsAt (w.alloc o) B A1 A2 cs st:=⟨h.1.alloc hB o,h.2.alloc hB o⟩
theorem InsAt.step {k:Nat} (h:InsAt w B A1 A2 cs st) (hk:k<st.length):∃ ad,A2=some ad∧ad.block<B∧w.cell? (ad.add k)=some (.int .i64 st[k]):=by
 obtain ⟨ad,e,hb,hc⟩:=h.2.at_ (k:=k) (by simpa using hk)
 refine ⟨ad,e,hb,?_⟩
 have:=hc 0 (.int .i64 st[k]) (by simp [intCell])
 simpa using this
theorem InsAt.crs {k:Nat} (h:InsAt w B A1 A2 cs st) (hk:k<cs.length):∃ ad,A1=some ad∧ad.block<B∧w.cell? (ad.add (k*3))=some (.int .i64 cs[k].1)∧w.cell? ⟨(ad.add (k*3)).block,(ad.add (k*3)).off+1,none⟩=some (.int .i64 cs[k].2.1)∧w.cell? ⟨(ad.add (k*3)).block,(ad.add (k*3)).off+2,none⟩=some (.bool cs[k].2.2):=by
 obtain ⟨ad,e,hb,hc⟩:=h.1.at_ (k:=k) (by simpa using hk)
 refine ⟨ad,e,hb,?_,?_,?_⟩
 ·have:=hc 0 (.int .i64 cs[k].1) (by simp [crsCells]);simpa using this
 ·rw [← add_field _ _ _ (by omega)];exact hc 1 (.int .i64 cs[k].2.1) (by simp [crsCells])
 ·rw [← add_field _ _ _ (by omega)];exact hc 2 (.bool cs[k].2.2) (by simp [crsCells])
end
end
section
open Go.RowKit
abbrev Stp:=Int×Int×Int×Int×Int
def stpCells(x:Stp):List Value:=[.int .i64 x.1,.int .i64 x.2.1,.int .i64 x.2.2.1,.int .i64 x.2.2.2.1,.int .i64 x.2.2.2.2]
structure Ev where
 bar:Bool
 val:Int
 dot:Bool
 three:Bool
 tie:Bool
 stops:List Stp
def evCells(e:Ev)(m:Option Addr×Nat):List Value:=[.bool e.bar,.int .i64 e.val,.bool e.dot,.bool e.three,.bool e.tie,.slice m.1 e.stops.length m.2]
structure Pce where
 cs:List (Int×Int×Bool)
 st:List Int
 evs:List Ev
structure PM where
 A1:Option Addr
 A2:Option Addr
 A3:Option Addr
 c1:Nat
 c2:Nat
 c3:Nat
def StpsAt (w:World)(B:Nat)(A:Option Addr)(l:List Stp):Prop:=Rd w B 5 A (l.map stpCells)
def EvsAt (w:World)(B:Nat)(A:Option Addr)(evs:List Ev):Prop :=
 ∃ ms:List (Option Addr×Nat),ms.length=evs.length∧Rd w B 6 A (List.zipWith evCells evs ms)∧∀ (k:Nat)(e:Ev)(m:Option Addr×Nat),evs[k]?=some e→ms[k]?=some m→StpsAt w B m.1 e.stops
def PcAt(w:World)(B:Nat)(M:PM)(p:Pce):Prop:=InsAt w B M.A1 M.A2 p.cs p.st∧EvsAt w B M.A3 p.evs∧p.evs.length≤M.c3
def pcValue(M:PM)(p:Pce):Value:=.agg #[.slice M.A1 p.cs.length M.c1,.slice M.A2 p.st.length M.c2,.slice M.A3 p.evs.length M.c3]
section
variable {w w':World} {B B':Nat} {A:Option Addr} {l:List Stp} {evs:List Ev} {M:PM} {p:Pce}
theorem StpsAt.keep(h:StpsAt w B A l)(hk:∀ p:Addr,p.block<B→w'.cell? p=w.cell? p):StpsAt w' B A l:=Rd.keep h hk
theorem StpsAt.more(h:StpsAt w B A l)(hB:B≤B'):StpsAt w B' A l:=Rd.more h hB
theorem StpsAt.below(h:StpsAt w B A l)(hb:Below B w w'):StpsAt w' B A l:=h.keep fun _ hp=>hb.cell hp
theorem EvsAt.keep(h:EvsAt w B A evs)(hk:∀ p:Addr,p.block<B→w'.cell? p=w.cell? p):EvsAt w' B A evs:=by
 obtain⟨ms,h1,h2,h3⟩:=h
 exact⟨ms,h1,h2.keep hk,fun k e m he hm=>(h3 k e m he hm).keep hk⟩
theorem EvsAt.more(h:EvsAt w B A evs)(hB:B≤B'):EvsAt w B' A evs:=by
 obtain⟨ms,h1,h2,h3⟩:=h
 exact⟨ms,h1,h2.more hB,fun k e m he hm=>(h3 k e m he hm).more hB⟩
theorem EvsAt.below(h:EvsAt w B A evs)(hb:Below B w w'):EvsAt w' B A evs:=h.keep fun _ hp=>hb.cell hp
theorem PcAt.keep(h:PcAt w B M p)(hk:∀ p:Addr,p.block<B→w'.cell? p=w.cell? p):PcAt w' B M p:=⟨h.1.keep hk,h.2.1.keep hk,h.2.2⟩
theorem PcAt.more(h:PcAt w B M p)(hB:B≤B'):PcAt w B' M p:=⟨h.1.more hB,h.2.1.more hB,h.2.2⟩
theorem PcAt.below(h:PcAt w B M p)(hb:Below B w w'):PcAt w' B M p:=h.keep fun _ hp=>hb.cell hp
theorem PcAt.after(h:PcAt w w.heap.size M p)(hb:Below w.heap.size w w'):PcAt w' w'.heap.size M p:=(h.below hb).more hb.size
theorem StpsAt.after(h:StpsAt w w.heap.size A l)(hb:Below w.heap.size w w'):StpsAt w' w'.heap.size A l:=(h.below hb).more hb.size
theorem StpsAt.stp {k:Nat} (h:StpsAt w B A l) (hk:k<l.length):∃ ad,A=some ad∧ad.block<B∧w.cell? (ad.add (k*5))=some (.int .i64 l[k].1) ∧
  w.cell? ⟨(ad.add (k*5)).block,(ad.add (k*5)).off+1,none⟩=some (.int .i64 l[k].2.1)∧w.cell? ⟨(ad.add (k*5)).block,(ad.add (k*5)).off+2,none⟩=some (.int .i64 l[k].2.2.1) ∧
  w.cell? ⟨(ad.add (k*5)).block,(ad.add (k*5)).off+3,none⟩=some (.int .i64 l[k].2.2.2.1)∧w.cell? ⟨(ad.add (k*5)).block,(ad.add (k*5)).off+4,none⟩=some (.int .i64 l[k].2.2.2.2):=by
 obtain ⟨ad,e,hb,hc⟩:=Rd.at_ (k:=k) h (by simpa using hk)
 refine ⟨ad,e,hb,?_,?_,?_,?_,?_⟩
 ·have:=hc 0 (.int .i64 l[k].1) (by simp [stpCells]);simpa using this
 ·rw [← add_field _ _ _ (by omega)];exact hc 1 _ (by simp [stpCells])
 ·rw [← add_field _ _ _ (by omega)];exact hc 2 _ (by simp [stpCells])
 ·rw [← add_field _ _ _ (by omega)];exact hc 3 _ (by simp [stpCells])
 ·rw [← add_field _ _ _ (by omega)];exact hc 4 _ (by simp [stpCells])
theorem EvsAt.ev {k:Nat} (h:EvsAt w B A evs) (hk:k<evs.length):∃ (ad:Addr) (S:Option Addr) (c:Nat),A=some ad∧ad.block<B∧w.cell? (ad.add (k*6))=some (.bool evs[k].bar) ∧
  w.cell? ⟨(ad.add (k*6)).block,(ad.add (k*6)).off+1,none⟩=some (.int .i64 evs[k].val)∧w.cell? ⟨(ad.add (k*6)).block,(ad.add (k*6)).off+2,none⟩=some (.bool evs[k].dot) ∧
  w.cell? ⟨(ad.add (k*6)).block,(ad.add (k*6)).off+3,none⟩=some (.bool evs[k].three)∧w.cell? ⟨(ad.add (k*6)).block,(ad.add (k*6)).off+4,none⟩=some (.bool evs[k].tie) ∧
  w.cell? ⟨(ad.add (k*6)).block,(ad.add (k*6)).off+5,none⟩=some (.slice S evs[k].stops.length c)∧StpsAt w B S evs[k].stops:=by
 obtain ⟨ms,h1,h2,h3⟩:=h
 obtain ⟨ad,e,hb,hc⟩:=Rd.at_ (k:=k) h2 (by simp;omega)
 have hm:k<ms.length:=by omega
 have hz:(List.zipWith evCells evs ms)[k]'(by simp;omega)=evCells evs[k] ms[k]:=List.getElem_zipWith
 rw [hz] at hc
 refine ⟨ad,ms[k].1,ms[k].2,e,hb,?_,?_,?_,?_,?_,?_,h3 k _ _ (List.getElem?_eq_getElem hk) (List.getElem?_eq_getElem hm)⟩
 ·have:=hc 0 (.bool evs[k].bar) (by simp [evCells]);simpa using this
 ·rw [← add_field _ _ _ (by omega)];exact hc 1 _ (by simp [evCells])
 ·rw [← add_field _ _ _ (by omega)];exact hc 2 _ (by simp [evCells])
 ·rw [← add_field _ _ _ (by omega)];exact hc 3 _ (by simp [evCells])
 ·rw [← add_field _ _ _ (by omega)];exact hc 4 _ (by simp [evCells])
 ·rw [← add_field _ _ _ (by omega)];exact hc 5 _ (by simp [evCells])
end
def bigB (p:Pce):Bool:=decide (64<p.cs.length)|| (decide (64<p.st.length)|| (decide (420<p.evs.length)|| p.evs.any fun e=>decide (20<e.stops.length)))
theorem any_at {α:Type} {f:α→Bool} {l:List α} {k:Nat} (h:k<l.length):(l.drop k).any f=(f l[k]|| (l.drop (k+1)).any f):=by
 rw [List.drop_eq_getElem_cons h];rfl
def evVal(e:Ev)(S:Option Addr)(c:Nat):Value:=.agg #[.bool e.bar,.int .i64 e.val,.bool e.dot,.bool e.three,.bool e.tie,.slice S e.stops.length c]
def stpVal(x:Stp):Value:=.agg #[.int .i64 x.1,.int .i64 x.2.1,.int .i64 x.2.2.1,.int .i64 x.2.2.2.1,.int .i64 x.2.2.2.2]
def restB(e:Ev):Bool:=e.stops.length == 0 && !e.tie
def hasB(c:Int)(l:List Stp):Bool:=l.any fun x=>x.1 == c
def runL(c:Int):Nat→List Ev→Nat
 | 0,_=>0
 | _+1,[]=>0
 | k+1,e::r=>if(restB e|| hasB c e.stops)=true then 0 else runL c k r+1
def longestN (evs:List Ev)(i c:Int):Nat:=if i<0∨(evs.length:Int)≤i then 0 else runL c 15 (evs.drop (i.toNat+1))
theorem runL_nil(c:Int)(k:Nat):runL c k []=0:=by cases k<;>rfl
theorem runL_le(c:Int):∀ (k:Nat)(l:List Ev),runL c k l≤k:=by
 intro k
 induction k with
 | zero=>intro l;simp [runL]
 | succ k ih =>
  intro l
  cases l with
  | nil=>simp [runL]
  | cons e r =>
   have:=ih r
   unfold runL
   split
   ·omega
   ·omega
theorem longestN_le(evs:List Ev)(i c:Int):longestN evs i c≤15:=by
 unfold longestN;split
 ·omega
 ·exact runL_le _ _ _
theorem runL_stop {c:Int} {l:List Ev} {k j:Nat} (hj:j<l.length)(h:(restB l[j]|| hasB c l[j].stops)=true):runL c k (l.drop j)=0:=by
 rw [List.drop_eq_getElem_cons hj]
 cases k with
 | zero=>rfl
 | succ k=>unfold runL;rw [if_pos h]
theorem runL_step {c:Int} {l:List Ev} {k j:Nat} (hj:j<l.length) (h:(restB l[j]|| hasB c l[j].stops)=false):runL c (k+1) (l.drop j)=runL c k (l.drop (j+1))+1:=by
 rw [List.drop_eq_getElem_cons hj,runL,if_neg (by rw [h];decide)]
end
section
def pS(s c f:Int):List UInt8:=if s=1 then frS c f else if s=2 then itS c f else if s=3 then spS c f else geS c f
def pOk(s c f:Int):Bool:=if s=1 then frOk c f else if s=2 then itOk c f else if s=3 then spOk c f else geOk c f
def symOne(s c f:Nat):Bool:=(pOk s c f == !(rS s c f).isEmpty) && (!pOk s c f|| pS s c f == rS s c f)
theorem symAll:((List.range' 1 4).all fun s=>(List.range' 1 14).all fun c=>(List.range 19).all fun f=>symOne s c f)=true:=by
 decide +kernel
theorem sym_law (s c f:Int)(hs:1≤s∧s≤4)(hc:1≤c∧c≤14)(hf:0≤f∧f≤18) :
  pOk s c f=!(rS s c f).isEmpty∧(pOk s c f=true→pS s c f=rS s c f):=by
 obtain⟨s,rfl⟩:=Int.eq_ofNat_of_zero_le (show 0≤s by omega)
 obtain⟨c,rfl⟩:=Int.eq_ofNat_of_zero_le (show 0≤c by omega)
 obtain⟨f,rfl⟩:=Int.eq_ofNat_of_zero_le hf.1
 have h:=symAll
 rw [List.all_eq_true]at h
 have h1:=h s (List.mem_range'_1.2 zqo)
 rw [List.all_eq_true]at h1
 have h2:=h1 c (List.mem_range'_1.2 zqo)
 rw [List.all_eq_true]at h2
 have h3:=h2 f (List.mem_range.2 zqo)
 unfold symOne at h3
 simp only [Bool.and_eq_true,beq_iff_eq,Bool.or_eq_true,Bool.not_eq_true']at h3
 refine⟨h3.1,fun hk=>?_⟩
 rcases h3.2 with h4|h4
 ·rw [hk]at h4;cases h4
 ·exact h4
end
section
open Go.RowKit
theorem insE_len {cs:List (Int×Int×Bool)} {st:List Int} (h:insE cs st=0):1≤cs.length∧cs.length≤14∧st.length≤18∧stepsBad 0 st=false∧crsE st cs=0:=by
 unfold insE at h
 by_cases h1:14<cs.length∨18<st.length
 ·rw [if_pos h1]at h;cases h
 ·rw [if_neg h1]at h
  by_cases h2:cs.length=0
  ·rw [if_pos h2]at h;cases h
  ·rw [if_neg h2]at h
   by_cases h3:stepsBad 0 st=true
   ·rw [if_pos h3]at h;cases h
   ·rw [if_neg h3]at h
    exact⟨by omega,by omega,by omega,by simpa using h3,h⟩
end
section
open Go.RowKit
attribute [local go_sem]mk_bs bs_size bs_toList bs_append bs_extract
attribute [local simp]run_cut run_cut_to run_cut_from run_add_bs
theorem of_bad (n:Int)(w:World)(h:n<1∨4<n):Calls Tryz.prog 92 #[.int .u8 n] w fun e w'=>e=.returned (.tuple #[.nilIface,.bool false])∧w=w':=by
 have h1:(n == 1)=false:=by simp;omega
 have h2:(n == 2)=false:=by simp;omega
 have h3:(n == 3)=false:=by simp;omega
 have h4:(n == 4)=false:=by simp;omega
 go_enter Tryz.func92,Tryz.ntmps92
 go_wp2
 go_ret2
 exact⟨rfl,rfl⟩
theorem psym_1 (c f:Int)(w:World)(hc:1≤c∧c≤14)(hf:0≤f∧f≤18) :
  Calls Tryz.prog 188 #[.agg #[],.agg #[.int .i64 c,.int .i64 f]] w (Ret (.tuple #[.string (bs (pS 1 c f)),.bool (pOk 1 c f)]) w):=fr_symbol c f w hc hf
theorem psym_2 (c f:Int)(w:World)(hc:1≤c∧c≤14)(hf:0≤f∧f≤18) :
  Calls Tryz.prog 225 #[.agg #[],.agg #[.int .i64 c,.int .i64 f]] w (Ret (.tuple #[.string (bs (pS 2 c f)),.bool (pOk 2 c f)]) w):=it_symbol c f w hc hf
theorem psym_3 (c f:Int)(w:World)(hc:1≤c∧c≤14)(hf:0≤f∧f≤18) :
  Calls Tryz.prog 233 #[.agg #[],.agg #[.int .i64 c,.int .i64 f]] w (Ret (.tuple #[.string (bs (pS 3 c f)),.bool (pOk 3 c f)]) w):=sp_symbol c f w hf
theorem psym_4 (c f:Int)(w:World)(hc:1≤c∧c≤14)(hf:0≤f∧f≤18) :
  Calls Tryz.prog 240 #[.agg #[],.agg #[.int .i64 c,.int .i64 f]] w (Ret (.tuple #[.string (bs (pS 4 c f)),.bool (pOk 4 c f)]) w):=ge_symbol c f w hc hf
end
section
open Go.RowKit
attribute [local go_sem]mk_bs bs_size bs_toList bs_append bs_extract
attribute [local simp]run_cut run_cut_to run_cut_from run_add_bs
theorem of_4 (w:World):Calls Tryz.prog 92 #[.int .u8 4] w fun e w'=>e=.returned (.tuple #[(.iface 175 (.agg #[])),.bool true])∧w=w':=by
 go_enter Tryz.func92,Tryz.ntmps92
 go_wp2
 go_ret2
 exact⟨rfl,rfl⟩
end
section
open Go.RowKit
def Calm(W w:World):Prop:=Below W.heap.size W w
theorem wp_region_calm {P:Program} {id:Nat} {Q:Exit→Act→World→Prop} {a:Act} {w:World} {l:List Oper} (W:World) (hm:P.follows .mixedOrders=true) (hB:Region.lexB .any l.toArray=true) (hW:Below W.heap.size W w)
  (h:wpQuiet P l.toArray (Calm W) (fun a'=>∀ w',Calm W w'→Q .normal a' w') l a):(Code.region id l.toArray true).wp P Q a w :=
 wp_region_quiet (C:=Calm W) hm hB (show Below W.heap.size W _ from ⟨hW.os,hW.tape,hW.output,hW.size,hW.block⟩) (by simpa using h)
theorem calm_val {P:Program} {W:World} {o:Oper} {a:Act} {K:Act→Prop} {v:Value} (h:∀ w',Calm W w'→(execOp a.eval o).run P w'=.ok (.value v) w')(hk:K (a.put o.dst v)):o.quiet P a (Calm W) K:=by
 refine⟨v,fun w' hw'=>?_,hk⟩
 unfold Oper.quietAt
 rw [h w' hw']
 exact⟨rfl,rfl⟩
theorem calm_enter {P:Program} {W:World} {o:Oper} {a:Act} {K:Act→Prop} {v:Value} {f:FuncId} {args:Array Value} (h:∀ w',Calm W w'→(execOp a.eval o).run P w'=.ok (.enter f args) w')(hc:∀ w',Calm W w'→Calls P f args w' (Ret v w'))(hk:K (a.put o.dst v)) :
  o.quiet P a (Calm W) K:=by
 refine⟨v,fun w' hw'=>?_,hk⟩
 unfold Oper.quietAt
 rw [h w' hw']
 exact⟨rfl,(hc w' hw').mono fun e w''⟨he,hb⟩=>⟨he,show Below W.heap.size W w'' from Below.trans hw' (hb.mono (Below.size hw'))⟩⟩
theorem calm_cell {W w':World} (h:Calm W w'):(∀ b o,b<W.heap.size→w'.cell? ⟨b,o,none⟩=W.cell? ⟨b,o,none⟩)∧(∀ p:Addr,p.block<W.heap.size→w'.cell? p=W.cell? p) :=
 ⟨fun b o h'=>Below.cell (p:=⟨b,o,none⟩) h h',fun p h'=>Below.cell (p:=p) h h'⟩
end
end Go.Proofs.YtaeelcfjkhfpkaaGreat
