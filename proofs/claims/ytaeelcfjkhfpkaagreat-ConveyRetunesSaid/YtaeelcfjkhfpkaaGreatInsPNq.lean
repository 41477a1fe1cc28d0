/- Instruments: what Check answers, and how they lie in memory. The plain part. -/
import Derived.Handy
import Derived.WalkLawsBesides
import Derived.Deep.AppendLies
set_option linter.unusedVariables false
set_option linter.unusedSimpArgs false
namespace Go.Proofs.YtaeelcfjkhfpkaaGreat
section
open Go.RowKit
theorem zqo {p:Prop} (h:p:=by omega):p:=h
theorem zqk {α:Sort _} {a b:α} (h:a = b:=by kernel_rfl):a = b:=h
theorem zqs {p:Prop} (h:p:=by first|omega|(simp;done)|(simp;omega)):p:=h
def bs(l:List UInt8):ByteArray:=⟨l.toArray⟩
theorem mk_bs(xs:Array UInt8):(ByteArray.mk xs)=bs xs.toList:=rfl
theorem bs_size(l:List UInt8):(bs l).size=l.length:=by simp [bs,ByteArray.size]
theorem bs_append (a b:List UInt8):bs a++bs b=bs (a++b):=by
 apply ByteArray.ext;simp [bs,ByteArray.data_append]
theorem bs_extract (l:List UInt8)(a b:Nat):(bs l).extract a b=bs ((l.drop a).take (b-a)):=by
 apply ByteArray.ext;simp [bs,ByteArray.data_extract]
theorem bs_toList(l:List UInt8):(bs l).toList=l:=by
 simp [bs]
def cut (l:List UInt8)(i j:Int):List UInt8:=(l.drop i.toNat).take (j.toNat-i.toNat)
theorem cut_length(l:List UInt8)(i j:Int):(cut l i j).length≤l.length:=by simp only [cut,List.length_take,List.length_drop];omega
section
variable {P:Program} (w:World)
theorem run_cut (t:TypeId) (l:List UInt8) (k k':IntKind) (i j:Int) (h:P.underlying t=some .string) (h0:0≤i) (h1:i≤j) (h2:j≤(l.length:Int)) :
  (Instr.slice t (.string (bs l)) (some (.int k i)) (some (.int k' j)) none).run P w=.ok (.string (bs (cut l i j))) w:=by
 rw [run_slice_string w t (bs l) k k' i j h h0 h1 (by rw [bs_size];exact h2),bs_extract];rfl
theorem run_cut_to (t:TypeId)(l:List UInt8)(k':IntKind)(j:Int)(h:P.underlying t=some .string)(h0:0≤j)(h2:j≤(l.length:Int)) :
  (Instr.slice t (.string (bs l)) none (some (.int k' j)) none).run P w=.ok (.string (bs (cut l 0 j))) w:=by
 have hj:0≤j∧j≤((bs l).size:Int):=⟨h0,by rw [bs_size];exact h2⟩
 rw [run_slice_string_to_if w t (bs l) k' j h,if_pos hj,bs_extract];rfl
theorem run_cut_from (t:TypeId) (l:List UInt8) (k:IntKind) (i:Int) (h:P.underlying t=some .string) (h0:0≤i) (h2:i≤(l.length:Int)) :
  (Instr.slice t (.string (bs l)) (some (.int k i)) none none).run P w=.ok (.string (bs (l.drop i.toNat))) w:=by
 have hj:0≤i∧i≤((bs l).size:Int):=⟨h0,by rw [bs_size];exact h2⟩
 rw [run_slice_string_from_if w t (bs l) k i h,if_pos hj,bs_extract,bs_size]
 rw [List.take_of_length_le (by simp)]
theorem run_add_bs (a b:List UInt8) (h:a.length+b.length≤9223372036854775807):(Op.stringOp .add (bs a) (bs b)).run P w=.ok (.string (bs (a++b))) w:=by
 rw [run_string_add_sum w (bs a) (bs b) (by rw [bs_size,bs_size];exact h),bs_append]
end
theorem bel_drewN {B:Nat} {a w:World} (h:Below B a w) (n:Nat):Below B a (w.drewN n):=h.trans ⟨rfl,rfl,rfl,Nat.le_refl _,fun _ _=>rfl⟩
theorem bel_step {a w w':World} (h:Below a.heap.size a w)(hb:Below w.heap.size w w'):Below a.heap.size a w':=h.trans (hb.mono h.size)
theorem bel_alloc {a w:World} (h:Below a.heap.size a w)(o:Obj):Below a.heap.size a (w.alloc o):=h.alloc h.size o
theorem zqb {n:Nat} {w w':World} (h:Below n w w':=by repeat (first|exact Below.refl _ _|assumption|refine bel_drewN ?_ _|refine Below.drew ?_|refine bel_alloc ?_ _|refine Below.setCell ?_ zqs _|refine bel_step ?_ (by assumption))):Below n w w':=h
theorem bcell {W w1:World} (hb:Below W.heap.size W w1):(∀ b o,b<W.heap.size→w1.cell? ⟨b,o,none⟩=W.cell? ⟨b,o,none⟩)∧(∀ b o,b<W.heap.size→w1.frozen? ⟨b,o,none⟩=W.frozen? ⟨b,o,none⟩) :=
 ⟨fun b o h=>hb.cell (p:=⟨b,o,none⟩) h,fun b o h=>hb.frozen (p:=⟨b,o,none⟩) h⟩
theorem run_partAt_zero {P:Program} (w:World) (b:Nat) (e:TypeId) (cs:Array Value) (hb:w.heap[b]?=some (.cells cs e (0,0))) (h0:P.cellsOf e=0):(partAt ⟨b,0,none⟩ 0 0).run P w=.ok ⟨b,0,none⟩ w:=by
 have hs:w.shape? b=some (e,cs.size):=by simp [World.shape?,hb]
 simp [partAt,byteOf,noView,viewAt,hs,h0]
theorem heap_alloc2 (w:World)(o o':Obj):((w.alloc o).alloc o').heap[w.heap.size]?=some o:=by
 rw [Below.heap_alloc _ _ _ (by simp)];exact heap_alloc_new w o
def Blk (w:World)(g:Nat)(t:TypeId)(cs:Array Value):Prop:=w.heap[g]?=some (.cells cs t (0,0))
section
variable {w w':World} {g:Nat} {t:TypeId} {cs:Array Value}
theorem Blk.lt(h:Blk w g t cs):g<w.heap.size:=by
 rcases Nat.lt_or_ge g w.heap.size with hlt|hge
 ·exact hlt
 ·unfold Blk at h;rw [Array.getElem?_eq_none hge]at h;cases h
theorem Blk.cell (h:Blk w g t cs) (i:Nat):w.cell? ⟨g,i,none⟩=cs[i]?:=cell_of_row w g i cs t (0,0) h
theorem Blk.frozen(h:Blk w g t cs) (i:Nat):w.frozen? ⟨g,i,none⟩=false:=by
 unfold Blk at h
 simp [World.frozen?,h]
theorem Blk.new (w:World)(t:TypeId)(cs:Array Value):Blk (w.alloc (.cells cs t)) w.heap.size t cs:=heap_alloc_new w _
theorem Blk.drew(h:Blk w g t cs):Blk w.drew g t cs:=h
theorem Blk.alloc (h:Blk w g t cs)(o:Obj):Blk (w.alloc o) g t cs:=(Below.heap_alloc w o g h.lt).trans h
theorem Blk.after(h:Blk w g t cs)(hb:Below w.heap.size w w'):Blk w' g t cs:=(hb.block g h.lt).trans h
end
def Ret(v:Value)(W:World)(e:Ending)(w':World):Prop:=e=.returned v∧Below W.heap.size W w'
theorem Ret.mk' {v v':Value} {W w':World} (h:v'=v)(hb:Below W.heap.size W w'):Ret v W (.returned v') w':=⟨by rw [h],hb⟩
end
section
open Go.RowKit
theorem own_built (w:World) (e:TypeId) (size n:Nat) (cs:Array Value) (hn:n≤maxLen) (hs:cs.size=n*size) :
  (w.alloc (.cells cs e)).ownsRow w.heap.size e size (.slice (some ⟨w.heap.size,0,none⟩) n n) n cs.toList :=
 ⟨by simpa using hs,.inr ⟨w.heap.size,n,cs,rfl,Nat.le_refl _,heap_alloc_new w _,Nat.le_refl _,hn,hs,by rw [← hs,List.take_of_length_le (by simp)]⟩⟩
theorem add_zero_addr(g j:Nat):(⟨g,0,none⟩:Addr).add j =⟨g,j,none⟩:=by
 unfold Addr.add
 by_cases h:j=0<;>simp [h]
theorem own_weaken {w:World} {base B:Nat} {e:TypeId} {size n:Nat} {v:Value} {xs:List Value} (h:w.ownsRow base e size v n xs) (hB:B≤base):w.ownsRow B e size v n xs:=by
 rcases h with⟨h1,h2|⟨g,cap,cur,hv,hbg,h3⟩⟩
 ·exact ⟨h1,.inl h2⟩
 ·exact ⟨h1,.inr ⟨g,cap,cur,hv,by omega,h3⟩⟩
end
section
open Go.RowKit
theorem block_of_add(a:Addr)(n:Nat):(a.add n).block=a.block:=by unfold Addr.add;split<;>rfl
theorem add_of_add (a:Addr)(i j:Nat):(a.add i).add j=a.add (i+j):=by
 unfold Addr.add
 by_cases hi:i=0<;>by_cases hj:j=0<;>simp [hi,hj,Nat.add_assoc]
theorem add_field (ad:Addr)(i j:Nat)(h:0<j):ad.add (i+j) =⟨(ad.add i).block,(ad.add i).off+j,none⟩:=by
 rw [← add_of_add]
 generalize ad.add i=b
 unfold Addr.add
 rw [if_neg (by omega)]
def Rd (w:World)(B size:Nat)(A:Option Addr)(l:List (List Value)):Prop :=
 0<l.length→∃ ad,A=some ad∧ad.block<B∧∀ k r,l[k]?=some r→∀ j u,r[j]?=some u→w.cell? (ad.add (k*size+j))=some u
section
variable {w w':World} {B B' size:Nat} {A:Option Addr} {l:List (List Value)}
theorem Rd.none_:Rd w B size A []:=fun h=>absurd h (by simp)
theorem Rd.at_ {k:Nat} (h:Rd w B size A l)(hk:k<l.length):∃ ad,A=some ad∧ad.block<B∧∀ j u,(l[k])[j]?=some u→w.cell? (ad.add (k*size+j))=some u:=by
 obtain⟨ad,e,hb,hc⟩:=h zqo
 exact⟨ad,e,hb,fun j u hu=>hc k _ (List.getElem?_eq_getElem hk) j u hu⟩
theorem Rd.keep (h:Rd w B size A l)(hk:∀ p:Addr,p.block<B→w'.cell? p=w.cell? p):Rd w' B size A l:=fun hn=>by
 obtain⟨ad,e,hb,hc⟩:=h hn
 exact⟨ad,e,hb,fun k r hr j u hu=>(hk _ (by rw [block_of_add];exact hb)).trans (hc k r hr j u hu)⟩
theorem Rd.more(h:Rd w B size A l)(hB:B≤B'):Rd w B' size A l:=fun hn=>by
 obtain⟨ad,e,hb,hc⟩:=h hn
 exact⟨ad,e,by omega,hc⟩
theorem Rd.alloc (h:Rd w B size A l)(hB:B≤w.heap.size)(o:Obj):Rd (w.alloc o) B size A l:=h.keep fun p hp=>World.cell?_alloc_lt w o p (by omega)
theorem Rd.setCell (h:Rd w B size A l) {p:Addr} (hB:B≤p.block)(u:Value):Rd (w.setCell p u) B size A l :=
 h.keep fun q hq=>World.cell?_setCell_other w p q u (fun e=>by subst e;omega)
theorem Rd.grown (h:Rd w B size A l) {row:Option Nat} (hg:w.grownBy w' row) (hB:B≤w.heap.size) (hr:∀ g,row=some g→B≤g):Rd w' B size A l :=
 h.keep fun p hp=>World.cell?_of_block (hg.block p.block zqo (fun e=>by have:=hr _ e.symm;omega))
end
end
section
open Go.RowKit
def intCell(x:Int):List Value:=[.int .i64 x]
def crsCells(x:Int×Int×Bool):List Value:=[.int .i64 x.1,.int .i64 x.2.1,.bool x.2.2]
def stepsBad (last:Int):List Int→Bool
 | []=>false
 | x::r=>decide (x≤last∨127<x)|| stepsBad x r
def topOf (st:List Int)(x:Int×Int×Bool):Int:=(x.1+if 0<x.2.1 then st.getD (x.2.1.toNat-1) 0 else 0)+if x.2.2 then 12 else 0
def crsE (st:List Int):List (Int×Int×Bool)→Int
 | []=>0
 | x::r=>if x.2.1<0∨(st.length:Int)<x.2.1 then 13 else if (x.1<0∨127<x.1)∨127<topOf st x then 10 else crsE st r
def insE (cs:List (Int×Int×Bool))(st:List Int):Int :=
 if 14<cs.length∨18<st.length then 2 else if cs.length=0 then 11 else if stepsBad 0 st=true then 11 else crsE st cs
theorem stepsBad_at {last:Int} {st:List Int} {k:Nat} (h:k<st.length):stepsBad last (st.drop k)=(decide (st[k]≤last∨127<st[k])|| stepsBad st[k] (st.drop (k+1))):=by
 rw [List.drop_eq_getElem_cons h];rfl
theorem crsE_at {st:List Int} {cs:List (Int×Int×Bool)} {k:Nat} (h:k<cs.length) :
  crsE st (cs.drop k)=if cs[k].2.1<0∨(st.length:Int)<cs[k].2.1 then 13 else if (cs[k].1<0∨127<cs[k].1)∨127<topOf st cs[k]then 10 else crsE st (cs.drop (k+1)):=by
 rw [List.drop_eq_getElem_cons h];rfl
theorem stepsBad_bd:∀ {st:List Int} {last:Int},0≤last→stepsBad last st=false→∀ k (h:k<st.length),1≤st[k]∧st[k]≤127:=by
 intro st
 induction st with
 | nil=>intro last _ _ k h;simp at h
 | cons x r ih =>
  intro last h0 hb k h
  unfold stepsBad at hb
  rw [Bool.or_eq_false_iff] at hb
  have hx:=of_decide_eq_false hb.1
  cases k with
  | zero=>simp only [List.getElem_cons_zero];omega
  | succ k=>simp only [List.getElem_cons_succ];exact ih (by omega) hb.2 k (by simpa using h)
def InsAt (w:World)(B:Nat)(A1 A2:Option Addr)(cs:List (Int×Int×Bool))(st:List Int):Prop:=Rd w B 3 A1 (cs.map crsCells)∧Rd w B 1 A2 (st.map intCell)
section
variable {w w':World} {B B':Nat} {A1 A2:Option Addr} {cs:List (Int×Int×Bool)} {st:List Int}
theorem InsAt.keep(h:InsAt w B A1 A2 cs st)(hk:∀ p:Addr,p.block<B→w'.cell? p=w.cell? p):InsAt w' B A1 A2 cs st:=⟨h.1.keep hk,h.2.keep hk⟩
theorem InsAt.more(h:InsAt w B A1 A2 cs st)(hB:B≤B'):InsAt w B' A1 A2 cs st:=⟨h.1.more hB,h.2.more hB⟩
theorem InsAt.below(h:InsAt w B A1 A2 cs st)(hb:Below B w w'):InsAt w' B A1 A2 cs st:=h.keep fun _ hp=>hb.cell hp
theorem InsAt.alloc (h:InsAt w B A1 A2 cs st)(hB:B≤w.heap.size)(o:Obj):InsAt (w.alloc o) B A1 A2 cs st:=⟨h.1.alloc hB o,h.2.alloc hB o⟩
theorem InsAt.step {k:Nat} (h:InsAt w B A1 A2 cs st) (hk:k<st.length):∃ ad,A2=some ad∧ad.block<B∧w.cell? (ad.add k)=some (.int .i64 st[k]):=by
 obtain ⟨ad,e,hb,hc⟩:=h.2.at_ (k:=k) (by simpa using hk)
 refine ⟨ad,e,hb,?_⟩
 have:=hc 0 (.int .i64 st[k]) (by simp [intCell])
 simpa using this
theorem InsAt.crs {k:Nat} (h:InsAt w B A1 A2 cs st) (hk:k<cs.length):∃ ad,A1=some ad∧ad.block<B∧w.cell? (ad.add (k*3))=some (.int .i64 cs[k].1)∧w.cell? ⟨(ad.add (k*3)).block,(ad.add (k*3)).off+1,none⟩=some (.int .i64 cs[k].2.1)∧w.cell? ⟨(ad.add (k*3)).block,(ad.add (k*3)).off+2,none⟩=some (.bool cs[k].2.2):=by
 obtain ⟨ad,e,hb,hc⟩:=h.1.at_ (k:=k) (by simpa using hk)
 refine ⟨ad,e,hb,?_,?_,?_⟩
 ·have:=hc 0 (.int .i64 cs[k].1) (by simp [crsCells]);simpa using this
 ·rw [← add_field _ _ _ (by omega)];exact hc 1 (.int .i64 cs[k].2.1) (by simp [crsCells])
 ·rw [← add_field _ _ _ (by omega)];exact hc 2 (.bool cs[k].2.2) (by simp [crsCells])
end
end
end Go.Proofs.YtaeelcfjkhfpkaaGreat
