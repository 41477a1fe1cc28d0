/- Blocks that stay; a store into a variable of the call's own; for regions that draw their order. -/
import Derived.Handy
import Derived.WalkLawsBesides
import Derived.Deep.AppendLies
import Derived.Deep.MidRow
set_option linter.unusedVariables false
set_option linter.unusedSimpArgs false
namespace Go.Proofs.YtaeelcfjkhfpkaaGreat
section
open Go.RowKit
theorem zqo {p:Prop} (h:p:=by omega):p:=h
theorem zqk {α:Sort _} {a b:α} (h:a = b:=by kernel_rfl):a = b:=h
theorem zqs {p:Prop} (h:p:=by first|omega|(simp;done)|(simp;omega)):p:=h
def bs(l:List UInt8):ByteArray:=⟨l.toArray⟩
theorem mk_bs(xs:Array UInt8):(ByteArray.mk xs)=bs xs.toList:=rfl
theorem bs_size(l:List UInt8):(bs l).size=l.length:=by simp [bs,ByteArray.size]
theorem bs_append (a b:List UInt8):bs a++bs b=bs (a++b):=by
 apply ByteArray.ext;simp [bs,ByteArray.data_append]
theorem bs_extract (l:List UInt8)(a b:Nat):(bs l).extract a b=bs ((l.drop a).take (b-a)):=by
 apply ByteArray.ext;simp [bs,ByteArray.data_extract]
theorem bs_toList(l:List UInt8):(bs l).toList=l:=by
 simp [bs]
def cut (l:List UInt8)(i j:Int):List UInt8:=(l.drop i.toNat).take (j.toNat-i.toNat)
theorem cut_length(l:List UInt8)(i j:Int):(cut l i j).length≤l.length:=by simp only [cut,List.length_take,List.length_drop];omega
section
variable {P:Program} (w:World)
theorem run_cut (t:TypeId) (l:List UInt8) (k k':IntKind) (i j:Int) (h:P.underlying t=some .string) (h0:0≤i) (h1:i≤j) (h2:j≤(l.length:Int)) :
  (Instr.slice t (.string (bs l)) (some (.int k i)) (some (.int k' j)) none).run P w=.ok (.string (bs (cut l i j))) w:=by
 rw [run_slice_string w t (bs l) k k' i j h h0 h1 (by rw [bs_size];exact h2),bs_extract];rfl
theorem run_cut_to (t:TypeId)(l:List UInt8)(k':IntKind)(j:Int)(h:P.underlying t=some .string)(h0:0≤j)(h2:j≤(l.length:Int)) :
  (Instr.slice t (.string (bs l)) none (some (.int k' j)) none).run P w=.ok (.string (bs (cut l 0 j))) w:=by
 have hj:0≤j∧j≤((bs l).size:Int):=⟨h0,by rw [bs_size];exact h2⟩
 rw [run_slice_string_to_if w t (bs l) k' j h,if_pos hj,bs_extract];rfl
theorem run_cut_from (t:TypeId) (l:List UInt8) (k:IntKind) (i:Int) (h:P.underlying t=some .string) (h0:0≤i) (h2:i≤(l.length:Int)) :
  (Instr.slice t (.string (bs l)) (some (.int k i)) none none).run P w=.ok (.string (bs (l.drop i.toNat))) w:=by
 have hj:0≤i∧i≤((bs l).size:Int):=⟨h0,by rw [bs_size];exact h2⟩
 rw [run_slice_string_from_if w t (bs l) k i h,if_pos hj,bs_extract,bs_size]
 rw [List.take_of_length_le (by simp)]
theorem run_add_bs (a b:List UInt8) (h:a.length+b.length≤9223372036854775807):(Op.stringOp .add (bs a) (bs b)).run P w=.ok (.string (bs (a++b))) w:=by
 rw [run_string_add_sum w (bs a) (bs b) (by rw [bs_size,bs_size];exact h),bs_append]
end
theorem bel_drewN {B:Nat} {a w:World} (h:Below B a w) (n:Nat):Below B a (w.drewN n):=h.trans ⟨rfl,rfl,rfl,Nat.le_refl _,fun _ _=>rfl⟩
theorem bel_step {a w w':World} (h:Below a.heap.size a w)(hb:Below w.heap.size w w'):Below a.heap.size a w':=h.trans (hb.mono h.size)
theorem bel_alloc {a w:World} (h:Below a.heap.size a w)(o:Obj):Below a.heap.size a (w.alloc o):=h.alloc h.size o
theorem zqb {n:Nat} {w w':World} (h:Below n w w':=by repeat (first|exact Below.refl _ _|assumption|refine bel_drewN ?_ _|refine Below.drew ?_|refine bel_alloc ?_ _|refine Below.setCell ?_ zqs _|refine bel_step ?_ (by assumption))):Below n w w':=h
theorem bcell {W w1:World} (hb:Below W.heap.size W w1):(∀ b o,b<W.heap.size→w1.cell? ⟨b,o,none⟩=W.cell? ⟨b,o,none⟩)∧(∀ b o,b<W.heap.size→w1.frozen? ⟨b,o,none⟩=W.frozen? ⟨b,o,none⟩) :=
 ⟨fun b o h=>hb.cell (p:=⟨b,o,none⟩) h,fun b o h=>hb.frozen (p:=⟨b,o,none⟩) h⟩
theorem run_partAt_zero {P:Program} (w:World) (b:Nat) (e:TypeId) (cs:Array Value) (hb:w.heap[b]?=some (.cells cs e (0,0))) (h0:P.cellsOf e=0):(partAt ⟨b,0,none⟩ 0 0).run P w=.ok ⟨b,0,none⟩ w:=by
 have hs:w.shape? b=some (e,cs.size):=by simp [World.shape?,hb]
 simp [partAt,byteOf,noView,viewAt,hs,h0]
theorem heap_alloc2 (w:World)(o o':Obj):((w.alloc o).alloc o').heap[w.heap.size]?=some o:=by
 rw [Below.heap_alloc _ _ _ (by simp)];exact heap_alloc_new w o
def Blk (w:World)(g:Nat)(t:TypeId)(cs:Array Value):Prop:=w.heap[g]?=some (.cells cs t (0,0))
section
variable {w w':World} {g:Nat} {t:TypeId} {cs:Array Value}
theorem Blk.lt(h:Blk w g t cs):g<w.heap.size:=by
 rcases Nat.lt_or_ge g w.heap.size with hlt|hge
 ·exact hlt
 ·unfold Blk at h;rw [Array.getElem?_eq_none hge]at h;cases h
theorem Blk.cell (h:Blk w g t cs) (i:Nat):w.cell? ⟨g,i,none⟩=cs[i]?:=cell_of_row w g i cs t (0,0) h
theorem Blk.frozen(h:Blk w g t cs) (i:Nat):w.frozen? ⟨g,i,none⟩=false:=by
 unfold Blk at h
 simp [World.frozen?,h]
theorem Blk.new (w:World)(t:TypeId)(cs:Array Value):Blk (w.alloc (.cells cs t)) w.heap.size t cs:=heap_alloc_new w _
theorem Blk.drew(h:Blk w g t cs):Blk w.drew g t cs:=h
theorem Blk.alloc (h:Blk w g t cs)(o:Obj):Blk (w.alloc o) g t cs:=(Below.heap_alloc w o g h.lt).trans h
theorem Blk.after(h:Blk w g t cs)(hb:Below w.heap.size w w'):Blk w' g t cs:=(hb.block g h.lt).trans h
end
def Ret(v:Value)(W:World)(e:Ending)(w':World):Prop:=e=.returned v∧Below W.heap.size W w'
theorem Ret.mk' {v v':Value} {W w':World} (h:v'=v)(hb:Below W.heap.size W w'):Ret v W (.returned v') w':=⟨by rw [h],hb⟩
end
section
open Go.RowKit
theorem own_built (w:World) (e:TypeId) (size n:Nat) (cs:Array Value) (hn:n≤maxLen) (hs:cs.size=n*size) :
  (w.alloc (.cells cs e)).ownsRow w.heap.size e size (.slice (some ⟨w.heap.size,0,none⟩) n n) n cs.toList :=
 ⟨by simpa using hs,.inr ⟨w.heap.size,n,cs,rfl,Nat.le_refl _,heap_alloc_new w _,Nat.le_refl _,hn,hs,by rw [← hs,List.take_of_length_le (by simp)]⟩⟩
theorem add_zero_addr(g j:Nat):(⟨g,0,none⟩:Addr).add j =⟨g,j,none⟩:=by
 unfold Addr.add
 by_cases h:j=0<;>simp [h]
theorem own_weaken {w:World} {base B:Nat} {e:TypeId} {size n:Nat} {v:Value} {xs:List Value} (h:w.ownsRow base e size v n xs) (hB:B≤base):w.ownsRow B e size v n xs:=by
 rcases h with⟨h1,h2|⟨g,cap,cur,hv,hbg,h3⟩⟩
 ·exact ⟨h1,.inl h2⟩
 ·exact ⟨h1,.inr ⟨g,cap,cur,hv,by omega,h3⟩⟩
end
section
open Go.RowKit
theorem block_of_add(a:Addr)(n:Nat):(a.add n).block=a.block:=by unfold Addr.add;split<;>rfl
theorem add_of_add (a:Addr)(i j:Nat):(a.add i).add j=a.add (i+j):=by
 unfold Addr.add
 by_cases hi:i=0<;>by_cases hj:j=0<;>simp [hi,hj,Nat.add_assoc]
theorem add_field (ad:Addr)(i j:Nat)(h:0<j):ad.add (i+j) =⟨(ad.add i).block,(ad.add i).off+j,none⟩:=by
 rw [← add_of_add]
 generalize ad.add i=b
 unfold Addr.add
 rw [if_neg (by omega)]
def Rd (w:World)(B size:Nat)(A:Option Addr)(l:List (List Value)):Prop :=
 0<l.length→∃ ad,A=some ad∧ad.block<B∧∀ k r,l[k]?=some r→∀ j u,r[j]?=some u→w.cell? (ad.add (k*size+j))=some u
section
variable {w w':World} {B B' size:Nat} {A:Option Addr} {l:List (List Value)}
theorem Rd.none_:Rd w B size A []:=fun h=>absurd h (by simp)
theorem Rd.at_ {k:Nat} (h:Rd w B size A l)(hk:k<l.length):∃ ad,A=some ad∧ad.block<B∧∀ j u,(l[k])[j]?=some u→w.cell? (ad.add (k*size+j))=some u:=by
 obtain⟨ad,e,hb,hc⟩:=h zqo
 exact⟨ad,e,hb,fun j u hu=>hc k _ (List.getElem?_eq_getElem hk) j u hu⟩
theorem Rd.keep (h:Rd w B size A l)(hk:∀ p:Addr,p.block<B→w'.cell? p=w.cell? p):Rd w' B size A l:=fun hn=>by
 obtain⟨ad,e,hb,hc⟩:=h hn
 exact⟨ad,e,hb,fun k r hr j u hu=>(hk _ (by rw [block_of_add];exact hb)).trans (hc k r hr j u hu)⟩
theorem Rd.more(h:Rd w B size A l)(hB:B≤B'):Rd w B' size A l:=fun hn=>by
 obtain⟨ad,e,hb,hc⟩:=h hn
 exact⟨ad,e,by omega,hc⟩
theorem Rd.alloc (h:Rd w B size A l)(hB:B≤w.heap.size)(o:Obj):Rd (w.alloc o) B size A l:=h.keep fun p hp=>World.cell?_alloc_lt w o p (by omega)
theorem Rd.setCell (h:Rd w B size A l) {p:Addr} (hB:B≤p.block)(u:Value):Rd (w.setCell p u) B size A l :=
 h.keep fun q hq=>World.cell?_setCell_other w p q u (fun e=>by subst e;omega)
theorem Rd.grown (h:Rd w B size A l) {row:Option Nat} (hg:w.grownBy w' row) (hB:B≤w.heap.size) (hr:∀ g,row=some g→B≤g):Rd w' B size A l :=
 h.keep fun p hp=>World.cell?_of_block (hg.block p.block zqo (fun e=>by have:=hr _ e.symm;omega))
end
end
section
open Go.RowKit
theorem flatten_at {size:Nat}:∀ {l:List (List Value)},(∀ r∈l,r.length=size)→∀ k r,l[k]?=some r→∀ j u,r[j]?=some u→l.flatten[k*size+j]?=some u:=by
 intro l
 induction l with
 | nil=>intro _ k r h;simp at h
 | cons x t ih =>
  intro hl k r hr j u hu
  have hx:x.length=size:=hl x (by simp)
  cases k with
  | zero =>
   obtain rfl:x=r:=by simpa using hr
   have hj:j<x.length:=(List.getElem?_eq_some_iff.1 hu).1
   rw [List.flatten_cons,Nat.zero_mul,Nat.zero_add,List.getElem?_append_left hj];exact hu
  | succ k =>
   have:=ih (fun r h=>hl r (by simp [h])) k r (by simpa using hr) j u hu
   rw [List.flatten_cons,List.getElem?_append_right (by rw [hx,Nat.succ_mul];omega),hx,Nat.succ_mul]
   rw [show k*size+size+j-size=k*size+j from by omega]
   exact this
theorem flatten_len {size:Nat}:∀ {l:List (List Value)},(∀ r∈l,r.length=size)→l.flatten.length=l.length*size:=by
 intro l
 induction l with
 | nil=>intro _;simp
 | cons x t ih =>
  intro hl
  rw [List.flatten_cons,List.length_append,hl x (by simp),ih (fun r h=>hl r (by simp [h])),List.length_cons,Nat.succ_mul];omega
theorem flatten_mem {size:Nat}:∀ {l:List (List Value)},(∀ r∈l,r.length=size)→∀ i u,l.flatten[i]?=some u→∃ k r j,l[k]?=some r∧r[j]?=some u∧i=k*size+j:=by
 intro l
 induction l with
 | nil=>intro _ i u h;simp at h
 | cons x t ih =>
  intro hl i u h
  have hx:x.length=size:=hl x (by simp)
  rw [List.flatten_cons] at h
  by_cases e:i<x.length
  ·rw [List.getElem?_append_left e] at h
   exact⟨0,x,i,by simp,h,by simp⟩
  ·rw [List.getElem?_append_right (by omega)] at h
   obtain⟨k,r,j,a,b,c⟩:=ih (fun r h=>hl r (by simp [h])) _ _ h
   exact⟨k+1,r,j,by simpa using a,b,by rw [Nat.succ_mul];omega⟩
section
variable {P:Program} {w w':World} {B B' size:Nat} {A:Option Addr} {l:List (List Value)}
theorem rd_of_own {base:Nat} {e:TypeId} {v:Value} {n:Nat} {xs:List Value} (h:w.ownsRow base e size v n xs) (hl:∀ r∈l,r.length=size) (hxs:xs=l.flatten) (hn:n=l.length) :
  ∃ A c,v=.slice A n c∧Rd w w.heap.size size A l∧(∀ ad,A=some ad→v.ownBlock=some ad.block∧base≤ad.block)∧n≤c:=by
 rcases h.2 with⟨rfl,h0⟩|⟨g,cap,cur,rfl,hb,hh,hnc,hcm,hcs,ht⟩
 ·subst h0
  have hnil:l=[]:=List.eq_nil_of_length_eq_zero hn.symm
  subst hnil
  exact ⟨none,0,rfl,Rd.none_,(fun ad h=>by cases h),Nat.le_refl _⟩
 ·refine ⟨some ⟨g,0,none⟩,cap,rfl,fun hpos=>⟨⟨g,0,none⟩,rfl,?_,fun k r hr j u hu=>?_⟩,(fun ad h=>by injection h with h;subst h;exact ⟨rfl,hb⟩),hnc⟩
  ·show g<w.heap.size
   rcases Nat.lt_or_ge g w.heap.size with hlt|hge
   ·exact hlt
   ·rw [Array.getElem?_eq_none hge] at hh;cases hh
  ·have h1:=flatten_at hl k r hr j u hu
   rw [← hxs,← ht] at h1
   rw [add_zero_addr,cell_of_row w g _ cur e (0,0) hh]
   rw [List.getElem?_take] at h1
   split at h1
   ·simpa using h1
   ·cases h1
theorem run_append_rd (base:Nat) (t ty e:TypeId) (i:TypeInfo) (z:Value) (size bytes:Nat) (ht:P.underlying t=some (.slice e)) (hi:P.info? e=some i) (hz:i.zero=some z)
  (hsize:i.size=size) (hby:i.bytes=bytes) (hzs:z.cells.size=size) (hsz:0<size)
  (v:Value) (n:Nat) (xs:List Value) (hown:w.ownsRow base e size v n xs)
  (c:Nat) (hr:Rd w B size A l) (hl:∀ r∈l,r.length=size) (h1:∀ r∈l,∀ u∈r,u.oneCell'=true)
  (h63:n+l.length≤maxLen) (hbytes:(n+l.length)*bytes≤140737488355328) (hbase:base≤w.heap.size) :
  ∃ v' w',(Builtin.append_ #[t,t] ty #[v,.slice A l.length c]).run P w=.ok v' w'∧w'.ownsRow base e size v' (n+l.length) (xs++l.flatten)∧w.grownBy w' v.ownBlock ∧
   (v'.ownBlock=v.ownBlock∨v'.ownBlock=some w.heap.size):=by
 rcases A with _|ad
 ·have hm:l=[]:=by
   rcases Nat.eq_zero_or_pos l.length with h0|h0
   ·exact List.eq_nil_of_length_eq_zero h0
   ·obtain ⟨ad,h,_⟩:=hr h0
    cases h
  subst hm
  refine ⟨v,w,?_,by simpa using hown,World.grownBy.refl w _,.inl rfl⟩
  rcases hown.2 with⟨rfl,rfl⟩|⟨g,cap,cur,rfl,_,_,hnc,_⟩
  ·simp [Builtin.append_,run_underlying ht,sizeOf,typeInfo,hi,Builtin.lenOf,Builtin.firstCells]
  ·simp [Builtin.append_,run_underlying ht,sizeOf,typeInfo,hi,Builtin.lenOf,Builtin.firstCells,hnc,storeCells]
 ·have hcells:∀ j u,l.flatten[j]?=some u→w.cell? (ad.add j)=some u:=by
   intro j u hu
   obtain ⟨k,r,q,hk,hq,rfl⟩:=flatten_mem hl j u hu
   have hpos:0<l.length:=by have:=(List.getElem?_eq_some_iff.1 hk).1;omega
   obtain ⟨ad',h,_,hc⟩:=hr hpos
   injection h with h
   subst h
   exact hc k r hk q u hq
  obtain ⟨v',w',hrun,h2,h3,_,h5⟩:=run_append_own_at (P:=P) w base t ty e i z size bytes ht hi hz hsize hby hzs hsz v n xs hown ad l.length c l.flatten (flatten_len hl) hcells
   (fun u hu=>by obtain ⟨r,hr1,hr2⟩:=List.mem_flatten.1 hu;exact h1 r hr1 u hr2) h63 hbytes hbase
  exact ⟨v',w',hrun,h2,h3,h5⟩
theorem wp_append_new {o:Oper} {a:Act} {K:Act→World→Prop} {Q:Exit→Act→World→Prop} (s x:Operand) (t:TypeId)
  (ho:o.op=.call { callee:=.builtin .append,args:=#[s,x],argTypes:=#[t,t] })
  (e:TypeId) (i:TypeInfo) (z:Value) (size bytes:Nat) (ht:P.underlying t=some (.slice e)) (hi:P.info? e=some i) (hz:i.zero=some z)
  (hsize:i.size=size) (hby:i.bytes=bytes) (hzs:z.cells.size=size) (hsz:0<size)
  (g:Nat) (hs:a.eval s=.slice (some ⟨g,0,none⟩) 0 0) (hown:Blk w g e #[])
  (B:Nat) (A:Option Addr) (l:List (List Value)) (m c:Nat) (hx:a.eval x=.slice A m c) (hm:m=l.length) (hr:Rd w B size A l) (hl:∀ r∈l,r.length=size) (h1:∀ r∈l,∀ u∈r,u.oneCell'=true)
  (h63:l.length≤maxLen) (hbytes:l.length*bytes≤140737488355328)
  (h:∀ A' c' w',Rd w' w'.heap.size size A' l→w.grownBy w' (some g)→((∀ ad,A'=some ad→(ad.block=g∨ad.block=w.heap.size)∧ad.block<w'.heap.size)∧m≤c')→K (a.put o.dst (.slice A' m c')) w'):o.wp P a w K Q:=by
 subst hm
 have hO:w.ownsRow g e size (.slice (some ⟨g,0,none⟩) 0 0) 0 []:=⟨by simp,.inr ⟨g,0,#[],rfl,Nat.le_refl _,hown,Nat.le_refl _,by simp,by simp,by simp⟩⟩
 obtain ⟨v',w',hrun,h2,h3,h4⟩:=run_append_rd (P:=P) (A:=A) (l:=l) g t o.type e i z size bytes ht hi hz hsize hby hzs hsz _ 0 [] hO c hr hl h1 (by omega) (by simpa using hbytes) (Nat.le_of_lt hown.lt)
 obtain ⟨A',c',hv,hrd,hat,hcap⟩:=rd_of_own h2 hl (by simp) (by omega)
 rw [Nat.zero_add] at hv
 subst hv
 unfold Oper.wp execOp
 simp only [ho,resolve,invoke,builtin,Sem.run_bind,Sem.run_pure,Result.andThen_ok,List.map_toArray,List.map_cons,List.map_nil,hs,hx,hrun]
 refine h A' c' w' hrd h3 ⟨fun ad had=>?_,by omega⟩
 have:=(hat ad had).1
 have hlt:ad.block<w'.heap.size:=by
  rcases h2.2 with⟨h,_⟩|⟨g',cap,cur,h,_,hh,_⟩
  ·rw [h] at this;simp [Value.ownBlock] at this
  ·rw [h] at this
   obtain rfl:g'=ad.block:=by simpa [Value.ownBlock] using this
   rcases Nat.lt_or_ge ad.block w'.heap.size with hlt|hge
   ·exact hlt
   ·rw [Array.getElem?_eq_none hge] at hh;cases hh
 rw [this] at h4
 exact ⟨by simpa [Value.ownBlock] using h4,hlt⟩
theorem step_append_new {ops:Array Oper} {o:Oper} {a:Act} {K:Act→World→Prop} {Q:Exit→Act→World→Prop} {E:Prop} (hgd:o.guard=none) (s x:Operand) (t:TypeId)
  (ho:o.op=.call { callee:=.builtin .append,args:=#[s,x],argTypes:=#[t,t] })
  (e:TypeId) (i:TypeInfo) (z:Value) (size bytes:Nat) (ht:P.underlying t=some (.slice e)) (hi:P.info? e=some i) (hz:i.zero=some z)
  (hsize:i.size=size) (hby:i.bytes=bytes) (hzs:z.cells.size=size) (hsz:0<size)
  (g:Nat) (hs:a.eval s=.slice (some ⟨g,0,none⟩) 0 0) (hown:Blk w g e #[])
  (B:Nat) (A:Option Addr) (l:List (List Value)) (m c:Nat) (hx:a.eval x=.slice A m c) (hm:m=l.length) (hr:Rd w B size A l) (hl:∀ r∈l,r.length=size) (h1:∀ r∈l,∀ u∈r,u.oneCell'=true)
  (h63:l.length≤maxLen) (hbytes:l.length*bytes≤140737488355328)
  (h:∀ A' c' w',Rd w' w'.heap.size size A' l→w.grownBy w' (some g)→((∀ ad,A'=some ad→(ad.block=g∨ad.block=w.heap.size)∧ad.block<w'.heap.size)∧m≤c')→K (a.put o.dst (.slice A' m c')) w') :
  if Region.wanted o (yielded ops a.tmps)=true then Oper.wp P o a w K Q else E:=by
 have hw:Region.wanted o (yielded ops a.tmps)=true:=by simp [Region.wanted,hgd]
 rw [if_pos hw]
 exact wp_append_new s x t ho e i z size bytes ht hi hz hsize hby hzs hsz g hs hown B A l m c hx hm hr hl h1 h63 hbytes h
end
theorem blk_new' {w:World} {g:Nat} {t:TypeId} {cs:Array Value} (h:g=w.heap.size):Blk (w.alloc (.cells cs t)) g t cs:=by subst h;exact Blk.new _ _ _
theorem blk_grown {w w':World} {g:Nat} {t:TypeId} {cs:Array Value} {row:Option Nat} (h:Blk w g t cs)(hb:w.grownBy w' row)(hg:some g≠row):Blk w' g t cs:=(hb.block g h.lt hg).trans h
end
section
open Go.RowKit
theorem blk_there {w:World} {b n:Nat} {t:TypeId} {cs:Array Value} (h:Blk w b t cs)(hn:n≤cs.size):w.there b 0 n:=fun j hj=>by
 rw [Nat.zero_add,h.cell,h.frozen]
 exact⟨by rw [Array.getElem?_eq_getElem (by omega)];rfl,rfl⟩
theorem there_drew {w:World} {b o n:Nat} (h:w.there b o n):w.drew.there b o n:=h
theorem there_grown {w w':World} {b o n g:Nat} (h:w.there b o n)(hg:w.grownBy w' (some g))(hne:b≠g):w'.there b o n:=fun j hj=>by
 obtain⟨h1,h2⟩:=h j hj
 obtain⟨u,hu⟩:=Option.isSome_iff_exists.1 h1
 have hb:=World.block_lt_of_cell? w _ hu
 have e:=hg.block b hb (by simpa using hne)
 exact⟨by rw [World.cell?_of_block (a:=⟨b,o+j,none⟩) e];exact h1,by rw [World.frozen?_of_block (a:=⟨b,o+j,none⟩) e];exact h2⟩
theorem there_setCell {w:World} {b o n:Nat} (h:w.there b o n)(p:Addr)(u:Value):(w.setCell p u).there b o n:=fun j hj=>by
 obtain⟨h1,h2⟩:=h j hj
 refine⟨?_,by rw [World.frozen?_setCell];exact h2⟩
 obtain⟨v,hv⟩:=Option.isSome_iff_exists.1 h1
 by_cases e:p=(⟨b,o+j,none⟩:Addr)
 ·subst e;rw [World.cell?_setCell_same _ _ _ hv];rfl
 ·rw [World.cell?_setCell_other _ _ _ _ e,hv];rfl
theorem there2 {w:World} {b:Nat} (h:w.there b 0 2):∃ u0 u1,w.cell? ⟨b,0,none⟩=some u0∧w.cell? ⟨b,1,none⟩=some u1∧w.frozen? ⟨b,0,none⟩=false∧w.frozen? ⟨b,1,none⟩=false:=by
 obtain ⟨a1,a2⟩:=h 0 zqo
 obtain ⟨b1,b2⟩:=h 1 zqo
 obtain ⟨u0,h0⟩:=Option.isSome_iff_exists.1 a1
 obtain ⟨u1,h1⟩:=Option.isSome_iff_exists.1 b1
 exact ⟨u0,u1,h0,h1,a2,b2⟩
def Stay(b:Nat)(w w':World):Prop:=b<w.heap.size∧w.heap.size≤w'.heap.size∧w'.heap[b]?=w.heap[b]?
theorem Stay.refl {b:Nat} {w:World} (h:b<w.heap.size):Stay b w w:=⟨h,Nat.le_refl _,rfl⟩
theorem Stay.drew {b:Nat} {w w':World} (h:Stay b w w'):Stay b w w'.drew:=h
theorem Stay.alloc {b:Nat} {w w':World} (h:Stay b w w')(o:Obj):Stay b w (w'.alloc o) :=
 ⟨h.1,Nat.le_trans h.2.1 (by simp),(Below.heap_alloc _ _ _ (Nat.lt_of_lt_of_le h.1 h.2.1)).trans h.2.2⟩
theorem Stay.grown {b g:Nat} {w w' w'':World} (h:Stay b w w') (hg:w'.grownBy w'' (some g)) (hne:b≠g):Stay b w w'' :=
 ⟨h.1,Nat.le_trans h.2.1 hg.size,(hg.block b (Nat.lt_of_lt_of_le h.1 h.2.1) (by simpa using hne)).trans h.2.2⟩
theorem Stay.setCell {b:Nat} {w w':World} (h:Stay b w w') {p:Addr} (hne:b≠p.block)(u:Value):Stay b w (w'.setCell p u) :=
 ⟨h.1,by simpa [World.setCell]using h.2.1,(Below.heap_setCell _ _ _ _ hne).trans h.2.2⟩
theorem bel_grown {a w w':World} {g:Nat} (h:Below a.heap.size a w)(hg:w.grownBy w' (some g))(hr:a.heap.size≤g):Below a.heap.size a w':=h.grown hg h.size (fun k e=>by injection e with e;omega)
theorem Rd.stay {w w':World} {size:Nat} {A:Option Addr} {l:List (List Value)} (h:Rd w w.heap.size size A l)(hs:∀ ad,A=some ad→ad.block<w.heap.size→Stay ad.block w w'):Rd w' w'.heap.size size A l:=fun hn=>by
 obtain⟨ad,e,hb,hc⟩:=h hn
 have s:=hs ad e hb
 exact⟨ad,e,Nat.lt_of_lt_of_le hb s.2.1,fun k r hr j u hu=>(World.cell?_of_block (by rw [block_of_add];exact s.2.2)).trans (hc k r hr j u hu)⟩
end
end Go.Proofs.YtaeelcfjkhfpkaaGreat
