/- Check of an instrument: the program. -/
import Derived.Test.YtkgnmddakiagbaaGreatDoorInsPWq
import Derived.Deep.MidRow
import Derived.Lib.Hide
import Derived.Lib.FrozenHead
import Derived.Test.YtkgnmddakiagbaaGreatDoorProg
import Derived.BigQuiet
import Derived.Deep.QuietTactic
set_option linter.unusedVariables false
set_option linter.unusedSimpArgs false
namespace Go.Proofs.YtkgnmddakiagbaaGreatDoor
open Go.RowKit
theorem flatten_at {size:Nat}:∀ {l:List (List Value)},(∀ r∈l,r.length=size)→∀ k r,l[k]?=some r→∀ j u,r[j]?=some u→l.flatten[k*size+j]?=some u:=by
 intro l
 induction l with
 | nil=>intro _ k r h;simp at h
 | cons x t ih =>
  intro hl k r hr j u hu
  have hx:x.length=size:=hl x (by simp)
  cases k with
  | zero =>
   obtain rfl:x=r:=by simpa using hr
   have hj:j<x.length:=(List.getElem?_eq_some_iff.1 hu).1
   rw [List.flatten_cons,Nat.zero_mul,Nat.zero_add,List.getElem?_append_left hj];exact hu
  | succ k =>
   have:=ih (fun r h=>hl r (by simp [h])) k r (by simpa using hr) j u hu
   rw [List.flatten_cons,List.getElem?_append_right (by rw [hx,Nat.succ_mul];omega),hx,Nat.succ_mul]
   rw [show k*size+size+j-size=k*size+j from by omega]
   exact this
theorem flatten_len {size:Nat}:∀ {l:List (List Value)},(∀ r∈l,r.length=size)→l.flatten.length=l.length*size:=by
 intro l
 induction l with
 | nil=>intro _;simp
 | cons x t ih =>
  intro hl
  rw [List.flatten_cons,List.length_append,hl x (by simp),ih (fun r h=>hl r (by simp [h])),List.length_cons,Nat.succ_mul];omega
theorem flatten_mem {size:Nat}:∀ {l:List (List Value)},(∀ r∈l,r.length=size)→∀ i u,l.flatten[i]?=some u→∃ k r j,l[k]?=some r∧r[j]?=some u∧i=k*size+j:=by
 intro l
 induction l with
 | nil=>intro _ i u h;simp at h
 | cons x t ih =>
  intro hl i u h
  have hx:x.length=size:=hl x (by simp)
  rw [List.flatten_cons] at h
  by_cases e:i<x.length
  ·rw [List.getElem?_append_left e] at h
   exact ⟨0,x,i,by simp,h,by simp⟩
  ·rw [List.getElem?_append_right (by omega)] at h
   obtain ⟨k,r,j,a,b,c⟩:=ih (fun r h=>hl r (by simp [h])) _ _ h
   exact ⟨k+1,r,j,by simpa using a,b,by rw [Nat.succ_mul];omega⟩
section
variable {P:Program} {w w':World} {B B' size:Nat} {A:Option Addr} {l:List (List Value)}
theorem rd_of_own {base:Nat} {e:TypeId} {v:Value} {n:Nat} {xs:List Value} (h:w.ownsRow base e size v n xs) (hl:∀ r∈l,r.length=size) (hxs:xs=l.flatten) (hn:n=l.length) :
  ∃ A c,v=.slice A n c∧Rd w w.heap.size size A l∧(∀ ad,A=some ad→v.ownBlock=some ad.block∧base≤ad.block)∧n≤c:=by
 rcases h.2 with⟨rfl,h0⟩|⟨g,cap,cur,rfl,hb,hh,hnc,hcm,hcs,ht⟩
 ·subst h0
  have hnil:l=[]:=List.eq_nil_of_length_eq_zero hn.symm
  subst hnil
  exact ⟨none,0,rfl,Rd.none_,(fun ad h=>by cases h),Nat.le_refl _⟩
 ·refine ⟨some ⟨g,0,none⟩,cap,rfl,fun hpos=>⟨⟨g,0,none⟩,rfl,?_,fun k r hr j u hu=>?_⟩,(fun ad h=>by injection h with h;subst h;exact ⟨rfl,hb⟩),hnc⟩
  ·show g<w.heap.size
   rcases Nat.lt_or_ge g w.heap.size with hlt|hge
   ·exact hlt
   ·rw [Array.getElem?_eq_none hge] at hh;cases hh
  ·have h1:=flatten_at hl k r hr j u hu
   rw [← hxs,← ht] at h1
   rw [add_zero_addr,cell_of_row w g _ cur e (0,0) hh]
   rw [List.getElem?_take] at h1
   split at h1
   ·simpa using h1
   ·cases h1
theorem run_append_rd (base:Nat) (t ty e:TypeId) (i:TypeInfo) (z:Value) (size bytes:Nat) (ht:P.underlying t=some (.slice e)) (hi:P.info? e=some i) (hz:i.zero=some z)
  (hsize:i.size=size) (hby:i.bytes=bytes) (hzs:z.cells.size=size) (hsz:0<size)
  (v:Value) (n:Nat) (xs:List Value) (hown:w.ownsRow base e size v n xs)
  (c:Nat) (hr:Rd w B size A l) (hl:∀ r∈l,r.length=size) (h1:∀ r∈l,∀ u∈r,u.oneCell'=true)
  (h63:n+l.length≤maxLen) (hbytes:(n+l.length)*bytes≤140737488355328) (hbase:base≤w.heap.size) :
  ∃ v' w',(Builtin.append_ #[t,t] ty #[v,.slice A l.length c]).run P w=.ok v' w'∧w'.ownsRow base e size v' (n+l.length) (xs++l.flatten)∧w.grownBy w' v.ownBlock ∧
   (v'.ownBlock=v.ownBlock∨v'.ownBlock=some w.heap.size):=by
 rcases A with _|ad
 ·have hm:l=[]:=by
   rcases Nat.eq_zero_or_pos l.length with h0|h0
   ·exact List.eq_nil_of_length_eq_zero h0
   ·obtain ⟨ad,h,_⟩:=hr h0
    cases h
  subst hm
  refine ⟨v,w,?_,by simpa using hown,World.grownBy.refl w _,.inl rfl⟩
  rcases hown.2 with⟨rfl,rfl⟩|⟨g,cap,cur,rfl,_,_,hnc,_⟩
  ·simp [Builtin.append_,run_underlying ht,sizeOf,typeInfo,hi,Builtin.lenOf,Builtin.firstCells]
  ·simp [Builtin.append_,run_underlying ht,sizeOf,typeInfo,hi,Builtin.lenOf,Builtin.firstCells,hnc,storeCells]
 ·have hcells:∀ j u,l.flatten[j]?=some u→w.cell? (ad.add j)=some u:=by
   intro j u hu
   obtain ⟨k,r,q,hk,hq,rfl⟩:=flatten_mem hl j u hu
   have hpos:0<l.length:=by have:=(List.getElem?_eq_some_iff.1 hk).1;omega
   obtain ⟨ad',h,_,hc⟩:=hr hpos
   injection h with h
   subst h
   exact hc k r hk q u hq
  obtain ⟨v',w',hrun,h2,h3,_,h5⟩:=run_append_own_at (P:=P) w base t ty e i z size bytes ht hi hz hsize hby hzs hsz v n xs hown ad l.length c l.flatten (flatten_len hl) hcells
   (fun u hu=>by obtain ⟨r,hr1,hr2⟩:=List.mem_flatten.1 hu;exact h1 r hr1 u hr2) h63 hbytes hbase
  exact ⟨v',w',hrun,h2,h3,h5⟩
theorem wp_append_new {o:Oper} {a:Act} {K:Act→World→Prop} {Q:Exit→Act→World→Prop} (s x:Operand) (t:TypeId)
  (ho:o.op=.call { callee:=.builtin .append,args:=#[s,x],argTypes:=#[t,t] })
  (e:TypeId) (i:TypeInfo) (z:Value) (size bytes:Nat) (ht:P.underlying t=some (.slice e)) (hi:P.info? e=some i) (hz:i.zero=some z)
  (hsize:i.size=size) (hby:i.bytes=bytes) (hzs:z.cells.size=size) (hsz:0<size)
  (g:Nat) (hs:a.eval s=.slice (some ⟨g,0,none⟩) 0 0) (hown:Blk w g e #[])
  (B:Nat) (A:Option Addr) (l:List (List Value)) (m c:Nat) (hx:a.eval x=.slice A m c) (hm:m=l.length) (hr:Rd w B size A l) (hl:∀ r∈l,r.length=size) (h1:∀ r∈l,∀ u∈r,u.oneCell'=true)
  (h63:l.length≤maxLen) (hbytes:l.length*bytes≤140737488355328)
  (h:∀ A' c' w',Rd w' w'.heap.size size A' l→w.grownBy w' (some g)→((∀ ad,A'=some ad→(ad.block=g∨ad.block=w.heap.size)∧ad.block<w'.heap.size)∧m≤c')→K (a.put o.dst (.slice A' m c')) w'):o.wp P a w K Q:=by
 subst hm
 have hO:w.ownsRow g e size (.slice (some ⟨g,0,none⟩) 0 0) 0 []:=⟨by simp,.inr ⟨g,0,#[],rfl,Nat.le_refl _,hown,Nat.le_refl _,by simp,by simp,by simp⟩⟩
 obtain ⟨v',w',hrun,h2,h3,h4⟩:=run_append_rd (P:=P) (A:=A) (l:=l) g t o.type e i z size bytes ht hi hz hsize hby hzs hsz _ 0 [] hO c hr hl h1 (by omega) (by simpa using hbytes) (Nat.le_of_lt hown.lt)
 obtain ⟨A',c',hv,hrd,hat,hcap⟩:=rd_of_own h2 hl (by simp) (by omega)
 rw [Nat.zero_add] at hv
 subst hv
 unfold Oper.wp execOp
 simp only [ho,resolve,invoke,builtin,Sem.run_bind,Sem.run_pure,Result.andThen_ok,List.map_toArray,List.map_cons,List.map_nil,hs,hx,hrun]
 refine h A' c' w' hrd h3 ⟨fun ad had=>?_,by omega⟩
 have:=(hat ad had).1
 have hlt:ad.block<w'.heap.size:=by
  rcases h2.2 with⟨h,_⟩|⟨g',cap,cur,h,_,hh,_⟩
  ·rw [h] at this;simp [Value.ownBlock] at this
  ·rw [h] at this
   obtain rfl:g'=ad.block:=by simpa [Value.ownBlock] using this
   rcases Nat.lt_or_ge ad.block w'.heap.size with hlt|hge
   ·exact hlt
   ·rw [Array.getElem?_eq_none hge] at hh;cases hh
 rw [this] at h4
 exact ⟨by simpa [Value.ownBlock] using h4,hlt⟩
theorem step_append_new {ops:Array Oper} {o:Oper} {a:Act} {K:Act→World→Prop} {Q:Exit→Act→World→Prop} {E:Prop} (hgd:o.guard=none) (s x:Operand) (t:TypeId)
  (ho:o.op=.call { callee:=.builtin .append,args:=#[s,x],argTypes:=#[t,t] })
  (e:TypeId) (i:TypeInfo) (z:Value) (size bytes:Nat) (ht:P.underlying t=some (.slice e)) (hi:P.info? e=some i) (hz:i.zero=some z)
  (hsize:i.size=size) (hby:i.bytes=bytes) (hzs:z.cells.size=size) (hsz:0<size)
  (g:Nat) (hs:a.eval s=.slice (some ⟨g,0,none⟩) 0 0) (hown:Blk w g e #[])
  (B:Nat) (A:Option Addr) (l:List (List Value)) (m c:Nat) (hx:a.eval x=.slice A m c) (hm:m=l.length) (hr:Rd w B size A l) (hl:∀ r∈l,r.length=size) (h1:∀ r∈l,∀ u∈r,u.oneCell'=true)
  (h63:l.length≤maxLen) (hbytes:l.length*bytes≤140737488355328)
  (h:∀ A' c' w',Rd w' w'.heap.size size A' l→w.grownBy w' (some g)→((∀ ad,A'=some ad→(ad.block=g∨ad.block=w.heap.size)∧ad.block<w'.heap.size)∧m≤c')→K (a.put o.dst (.slice A' m c')) w') :
  if Region.wanted o (yielded ops a.tmps)=true then Oper.wp P o a w K Q else E:=by
 have hw:Region.wanted o (yielded ops a.tmps)=true:=by simp [Region.wanted,hgd]
 rw [if_pos hw]
 exact wp_append_new s x t ho e i z size bytes ht hi hz hsize hby hzs hsz g hs hown B A l m c hx hm hr hl h1 h63 hbytes h
end
theorem blk_new' {w:World} {g:Nat} {t:TypeId} {cs:Array Value} (h:g=w.heap.size):Blk (w.alloc (.cells cs t)) g t cs:=by subst h;exact Blk.new _ _ _
theorem blk_grown {w w':World} {g:Nat} {t:TypeId} {cs:Array Value} {row:Option Nat} (h:Blk w g t cs) (hb:w.grownBy w' row) (hg:some g≠row):Blk w' g t cs:=(hb.block g h.lt hg).trans h
end Go.Proofs.YtkgnmddakiagbaaGreatDoor
namespace Go.Proofs.YtkgnmddakiagbaaGreatDoor
open Go.RowKit
theorem blk_there {w:World} {b n:Nat} {t:TypeId} {cs:Array Value} (h:Blk w b t cs) (hn:n≤cs.size):w.there b 0 n:=fun j hj=>by
 rw [Nat.zero_add,h.cell,h.frozen]
 exact ⟨by rw [Array.getElem?_eq_getElem (by omega)];rfl,rfl⟩
theorem there_drew {w:World} {b o n:Nat} (h:w.there b o n):w.drew.there b o n:=h
theorem there_grown {w w':World} {b o n g:Nat} (h:w.there b o n) (hg:w.grownBy w' (some g)) (hne:b≠g):w'.there b o n:=fun j hj=>by
 obtain ⟨h1,h2⟩:=h j hj
 obtain ⟨u,hu⟩:=Option.isSome_iff_exists.1 h1
 have hb:=World.block_lt_of_cell? w _ hu
 have e:=hg.block b hb (by simpa using hne)
 exact ⟨by rw [World.cell?_of_block (a:=⟨b,o+j,none⟩) e];exact h1,by rw [World.frozen?_of_block (a:=⟨b,o+j,none⟩) e];exact h2⟩
theorem there_setCell {w:World} {b o n:Nat} (h:w.there b o n) (p:Addr) (u:Value):(w.setCell p u).there b o n:=fun j hj=>by
 obtain ⟨h1,h2⟩:=h j hj
 refine ⟨?_,by rw [World.frozen?_setCell];exact h2⟩
 obtain ⟨v,hv⟩:=Option.isSome_iff_exists.1 h1
 by_cases e:p=(⟨b,o+j,none⟩:Addr)
 ·subst e;rw [World.cell?_setCell_same _ _ _ hv];rfl
 ·rw [World.cell?_setCell_other _ _ _ _ e,hv];rfl
theorem there2 {w:World} {b:Nat} (h:w.there b 0 2):∃ u0 u1,w.cell? ⟨b,0,none⟩=some u0∧w.cell? ⟨b,1,none⟩=some u1∧w.frozen? ⟨b,0,none⟩=false∧w.frozen? ⟨b,1,none⟩=false:=by
 obtain ⟨a1,a2⟩:=h 0 (by omega)
 obtain ⟨b1,b2⟩:=h 1 (by omega)
 obtain ⟨u0,h0⟩:=Option.isSome_iff_exists.1 a1
 obtain ⟨u1,h1⟩:=Option.isSome_iff_exists.1 b1
 exact ⟨u0,u1,h0,h1,a2,b2⟩
def Stay (b:Nat) (w w':World):Prop:=b<w.heap.size∧w.heap.size≤w'.heap.size∧w'.heap[b]?=w.heap[b]?
theorem Stay.refl {b:Nat} {w:World} (h:b<w.heap.size):Stay b w w:=⟨h,Nat.le_refl _,rfl⟩
theorem Stay.drew {b:Nat} {w w':World} (h:Stay b w w'):Stay b w w'.drew:=h
theorem Stay.alloc {b:Nat} {w w':World} (h:Stay b w w') (o:Obj):Stay b w (w'.alloc o) :=
 ⟨h.1,Nat.le_trans h.2.1 (by simp),(Below.heap_alloc _ _ _ (Nat.lt_of_lt_of_le h.1 h.2.1)).trans h.2.2⟩
theorem Stay.grown {b g:Nat} {w w' w'':World} (h:Stay b w w') (hg:w'.grownBy w'' (some g)) (hne:b≠g):Stay b w w'' :=
 ⟨h.1,Nat.le_trans h.2.1 hg.size,(hg.block b (Nat.lt_of_lt_of_le h.1 h.2.1) (by simpa using hne)).trans h.2.2⟩
theorem Stay.setCell {b:Nat} {w w':World} (h:Stay b w w') {p:Addr} (hne:b≠p.block) (u:Value):Stay b w (w'.setCell p u) :=
 ⟨h.1,by simpa [World.setCell] using h.2.1,(Below.heap_setCell _ _ _ _ hne).trans h.2.2⟩
theorem bel_grown {a w w':World} {g:Nat} (h:Below a.heap.size a w) (hg:w.grownBy w' (some g)) (hr:a.heap.size≤g):Below a.heap.size a w':=h.grown hg h.size (fun k e=>by injection e with e;omega)
theorem Rd.stay {w w':World} {size:Nat} {A:Option Addr} {l:List (List Value)} (h:Rd w w.heap.size size A l) (hs:∀ ad,A=some ad→ad.block<w.heap.size→Stay ad.block w w'):Rd w' w'.heap.size size A l:=fun hn=>by
 obtain ⟨ad,e,hb,hc⟩:=h hn
 have s:=hs ad e hb
 exact ⟨ad,e,Nat.lt_of_lt_of_le hb s.2.1,fun k r hr j u hu=>(World.cell?_of_block (by rw [block_of_add];exact s.2.2)).trans (hc k r hr j u hu)⟩
theorem rd_block {w:World} {g:Nat} {t:TypeId} {cs:List Value} {size:Nat} (h:Blk w g t cs.toArray) (hs:cs.length=size):Rd w w.heap.size size (some ⟨g,0,none⟩) [cs]:=fun _=>by
 refine ⟨⟨g,0,none⟩,rfl,h.lt,fun k r hr j u hu=>?_⟩
 match k with
 | 0 =>
  obtain rfl:cs=r:=by simpa using hr
  rw [Nat.zero_mul,Nat.zero_add,add_zero_addr,h.cell]
  simpa using hu
 | k+1=>simp at hr
theorem wpList_append_rd {P:Program} {w:World} {ops:Array Oper} {rest:List Oper} {o:Oper} {a:Act} {Q:Exit→Act→World→Prop} (hgd:o.guard=none) (s x:Operand) (t:TypeId)
  (ho:o.op=.call { callee:=.builtin .append,args:=#[s,x],argTypes:=#[t,t] })
  (base:Nat) (e:TypeId) (i:TypeInfo) (z:Value) (size bytes:Nat) (ht:P.underlying t=some (.slice e)) (hi:P.info? e=some i) (hz:i.zero=some z)
  (hsize:i.size=size) (hby:i.bytes=bytes) (hzs:z.cells.size=size) (hsz:0<size)
  (v:Value) (n:Nat) (L:List (List Value)) (hs:a.eval s=v) (hown:w.ownsRow base e size v n L.flatten) (hL:∀ r∈L,r.length=size) (hn:n=L.length)
  (B:Nat) (A:Option Addr) (l:List (List Value)) (m c:Nat) (hx:a.eval x=.slice A m c) (hm:m=l.length) (hr:Rd w B size A l) (hl:∀ r∈l,r.length=size) (h1:∀ r∈l,∀ u∈r,u.oneCell'=true)
  (h63:n+l.length≤maxLen) (hbytes:(n+l.length)*bytes≤140737488355328) (hbase:base≤w.heap.size)
  (h:∀ A' c' w',w'.ownsRow base e size (.slice A' (n+m) c') (n+m) (L++l).flatten→w.grownBy w' v.ownBlock→((Value.slice A' (n+m) c').ownBlock=v.ownBlock∨(Value.slice A' (n+m) c').ownBlock=some w.heap.size)→wpList P ops Q rest (a.put o.dst (.slice A' (n+m) c')) w') :
  wpList P ops Q (o::rest) a w :=
 wpList_plain hgd fun _ hK=>by
  subst hm
  obtain ⟨v',w',hrun,h2,h3,h4⟩:=run_append_rd (P:=P) (A:=A) (l:=l) base t o.type e i z size bytes ht hi hz hsize hby hzs hsz v n L.flatten hown c hr hl h1 h63 hbytes hbase
  rw [← List.flatten_append] at h2
  obtain ⟨A',c',hv,hrd,hat,hcap⟩:=rd_of_own (l:=L++l) h2 (fun r hr=>by rcases List.mem_append.1 hr with h|h;exact hL r h;exact hl r h) rfl (by simp [hn])
  subst hv
  unfold Oper.wp execOp
  simp only [ho,resolve,invoke,builtin,Sem.run_bind,Sem.run_pure,Result.andThen_ok,List.map_toArray,List.map_cons,List.map_nil,hs,hx,hrun]
  exact hK _ _ (h A' c' w' h2 h3 h4)
theorem own_keep {w w':World} {base:Nat} {e:TypeId} {size n:Nat} {v:Value} {xs:List Value} (h:w.ownsRow base e size v n xs) (hk:∀ g,v.ownBlock=some g→g<w.heap.size→w'.heap[g]?=w.heap[g]?):w'.ownsRow base e size v n xs:=by
 rcases h with⟨h1,⟨rfl,h2⟩|⟨g,cap,cur,rfl,hbg,hh,h3⟩⟩
 ·exact ⟨h1,.inl ⟨rfl,h2⟩⟩
 ·have hlt:g<w.heap.size:=by
   rcases Nat.lt_or_ge g w.heap.size with hlt|hge
   ·exact hlt
   ·rw [Array.getElem?_eq_none hge] at hh;cases hh
  exact ⟨h1,.inr ⟨g,cap,cur,rfl,hbg,(hk g rfl hlt).trans hh,h3⟩⟩
theorem own_lt {w:World} {base:Nat} {e:TypeId} {size n:Nat} {v:Value} {xs:List Value} (h:w.ownsRow base e size v n xs):∀ g,v.ownBlock=some g→base≤g∧g<w.heap.size:=by
 intro g hg
 rcases h.2 with⟨rfl,_⟩|⟨g',cap,cur,rfl,hb,hh,_⟩
 ·simp [Value.ownBlock] at hg
 ·obtain rfl:g'=g:=by simpa [Value.ownBlock] using hg
  refine ⟨hb,?_⟩
  rcases Nat.lt_or_ge g' w.heap.size with hlt|hge
  ·exact hlt
  ·rw [Array.getElem?_eq_none hge] at hh;cases hh
end Go.Proofs.YtkgnmddakiagbaaGreatDoor
namespace Go.Proofs.YtkgnmddakiagbaaGreatDoor
open Go.RowKit
inductive AV where
 | sc (v:Value)
 | ag (l:List AV)
 | tu (l:List AV)
 | ls (n:Nat) (rows:List (List AV))
 | ow (T:TypeId) (n:Nat) (rows:List (List AV))
 | pr (cells:List AV)
 | pt (k i j:Nat)
 | sl (k:Nat)
 | fn (f:FuncId) (caps:List AV)
abbrev View:=Addr→Option Value
inductive RP (F:View):AV→Value→Prop
 | sc (v:Value):RP F (.sc v) v
 | ag (l:List AV) (cs:Array Value):cs.size=l.length→(∀ (i:Nat) av u,l[i]?=some av→cs[i]?=some u→RP F av u)→RP F (.ag l) (.agg cs)
 | tu (l:List AV) (cs:Array Value):cs.size=l.length→(∀ (i:Nat) av u,l[i]?=some av→cs[i]?=some u→RP F av u)→RP F (.tu l) (.tuple cs)
 | ls (n:Nat) (rows:List (List AV)) (A:Option Addr) (cap:Nat) (ad:Addr) (u:Nat→Nat→Value):rows.length≤cap→(∀ r∈rows,r.length=n)→(0<rows.length→A=some ad) →
   (∀ (i:Nat) r (j:Nat) av,rows[i]?=some r→r[j]?=some av→F (ad.add (i*n+j))=some (u i j)∧(u i j).oneCell'=true) →
   (∀ (i:Nat) r (j:Nat) av,rows[i]?=some r→r[j]?=some av→RP F av (u i j))→RP F (.ls n rows) (.slice A rows.length cap)
 | pr (cells:List AV) (p:Addr) (u:Nat→Value):(∀ (j:Nat) av,cells[j]?=some av→F (p.add j)=some (u j)∧(u j).oneCell'=true) →
   (∀ (j:Nat) av,cells[j]?=some av→RP F av (u j))→RP F (.pr cells) (.pointer (some p))
 | fn (f:FuncId) (l:List AV) (cs:Array Value):cs.size=l.length→(∀ (i:Nat) av u,l[i]?=some av→cs[i]?=some u→RP F av u)→RP F (.fn f l) (.func (.func f) #[] cs)
def View.le (F F':View):Prop:=∀ p u,F p=some u→F' p=some u
theorem RP.mono {F F':View} (h:F.le F') {av:AV} {v:Value} (r:RP F av v):RP F' av v:=by
 induction r with
 | sc v=>exact .sc v
 | ag l cs h1 _ ih=>exact .ag l cs h1 ih
 | tu l cs h1 _ ih=>exact .tu l cs h1 ih
 | ls n rows A cap ad u h0 h1 h2 h3 _ ih=>exact .ls n rows A cap ad u h0 h1 h2 (fun i r j av a b=>⟨h _ _ (h3 i r j av a b).1,(h3 i r j av a b).2⟩) ih
 | pr cells p u h1 _ ih=>exact .pr cells p u (fun j av a=>⟨h _ _ (h1 j av a).1,(h1 j av a).2⟩) ih
 | fn f l cs h1 _ ih=>exact .fn f l cs h1 ih
structure Gh where
 F:View
 b:Nat→Nat
 n:Nat→Nat
 h:Nat→Value
 fp:Nat→Nat→Prop
inductive R (G:Gh):AV→Value→Prop
 | pu (av:AV) (v:Value):RP G.F av v→R G av v
 | pt (k i j:Nat) (p:Addr):p.block=G.b k→p.off=i*G.n k+j→p.spot=none→R G (.pt k i j) (.pointer (some p))
 | sl (k:Nat):(G.h k).oneCell'=true→R G (.sl k) (G.h k)
 | ag (l:List AV) (cs:Array Value):cs.size=l.length→(∀ (i:Nat) av u,l[i]?=some av→cs[i]?=some u→R G av u)→R G (.ag l) (.agg cs)
 | tu (l:List AV) (cs:Array Value):cs.size=l.length→(∀ (i:Nat) av u,l[i]?=some av→cs[i]?=some u→R G av u)→R G (.tu l) (.tuple cs)
 | fn (f:FuncId) (l:List AV) (cs:Array Value):cs.size=l.length→(∀ (i:Nat) av u,l[i]?=some av→cs[i]?=some u→R G av u)→R G (.fn f l) (.func (.func f) #[] cs)
inductive Bd (nk:Nat):AV→Prop
 | sc (v:Value):Bd nk (.sc v)
 | ls (n:Nat) (rows:List (List AV)):Bd nk (.ls n rows)
 | ow (T:TypeId) (n:Nat) (rows:List (List AV)):Bd nk (.ow T n rows)
 | pr (cells:List AV):Bd nk (.pr cells)
 | pt (k i j:Nat):k<nk→Bd nk (.pt k i j)
 | sl (k:Nat):k<nk→Bd nk (.sl k)
 | ag (l:List AV):(∀ (i:Nat) x,l[i]?=some x→Bd nk x)→Bd nk (.ag l)
 | tu (l:List AV):(∀ (i:Nat) x,l[i]?=some x→Bd nk x)→Bd nk (.tu l)
 | fn (f:FuncId) (l:List AV):(∀ (i:Nat) x,l[i]?=some x→Bd nk x)→Bd nk (.fn f l)
theorem Bd.mono {nk nk':Nat} (h:nk≤nk') {av:AV} (b:Bd nk av):Bd nk' av:=by
 induction b with
 | sc v=>exact .sc v
 | ls n rows=>exact .ls n rows
 | ow T n rows=>exact .ow T n rows
 | pr cells=>exact .pr cells
 | pt k i j hk=>exact .pt k i j (by omega)
 | sl k hk=>exact .sl k (by omega)
 | ag l _ ih=>exact .ag l ih
 | tu l _ ih=>exact .tu l ih
 | fn f l _ ih=>exact .fn f l ih
structure Gh.le (G G':Gh) (nk:Nat):Prop where
 F:G.F.le G'.F
 b:∀ k,k<nk→G'.b k=G.b k
 n:∀ k,k<nk→G'.n k=G.n k
 h:∀ k,k<nk→G'.h k=G.h k
theorem Gh.le.refl (G:Gh) (nk:Nat):G.le G nk:=⟨fun _ _ h=>h,fun _ _=>rfl,fun _ _=>rfl,fun _ _=>rfl⟩
theorem R.mono {G G':Gh} {nk:Nat} (h:G.le G' nk) {av:AV} {v:Value} (r:R G av v) (b:Bd nk av):R G' av v:=by
 induction r with
 | pu av v hp=>exact .pu _ _ (hp.mono h.F)
 | pt k i j p h1 h2 h3 =>
  cases b with
  | pt _ _ _ hk=>exact .pt k i j p (by rw [h.b k hk];exact h1) (by rw [h.n k hk];exact h2) h3
 | sl k h1 =>
  cases b with
  | sl _ hk=>rw [← h.h k hk];exact .sl k (by rw [h.h k hk];exact h1)
 | ag l cs h1 _ ih =>
  cases b with
  | ag _ hb=>exact .ag l cs h1 fun i av u a c=>ih i av u a c (hb i av a)
 | tu l cs h1 _ ih =>
  cases b with
  | tu _ hb=>exact .tu l cs h1 fun i av u a c=>ih i av u a c (hb i av a)
 | fn f l cs h1 _ ih =>
  cases b with
  | fn _ _ hb=>exact .fn f l cs h1 fun i av u a c=>ih i av u a c (hb i av a)
theorem RP.sc_eq {F:View} {v u:Value} (r:RP F (.sc v) u):u=v:=by cases r;rfl
theorem R.sc_eq {G:Gh} {v u:Value} (r:R G (.sc v) u):u=v:=by cases r with|pu _ _ h=>exact h.sc_eq
theorem R.pu_of {G:Gh} {n:Nat} {rows:List (List AV)} {u:Value} (r:R G (.ls n rows) u):RP G.F (.ls n rows) u:=by cases r with|pu _ _ h=>exact h
theorem R.pr_of {G:Gh} {cells:List AV} {u:Value} (r:R G (.pr cells) u):RP G.F (.pr cells) u:=by cases r with|pu _ _ h=>exact h
theorem RP.no_ow {F:View} {T n:Nat} {rows:List (List AV)} {u:Value} (r:RP F (.ow T n rows) u):False:=by cases r
theorem R.no_ow {G:Gh} {T n:Nat} {rows:List (List AV)} {u:Value} (r:R G (.ow T n rows) u):False:=by cases r with|pu _ _ h=>exact h.no_ow
theorem R.ag_of {G:Gh} {l:List AV} {u:Value} (r:R G (.ag l) u):∃ cs:Array Value,u=.agg cs∧cs.size=l.length∧∀ (i:Nat) av u,l[i]?=some av→cs[i]?=some u→R G av u:=by
 cases r with
 | pu _ _ h=>cases h with|ag _ cs h1 h2=>exact ⟨cs,rfl,h1,fun i av u a b=>.pu _ _ (h2 i av u a b)⟩
 | ag _ cs h1 h2=>exact ⟨cs,rfl,h1,h2⟩
theorem R.tu_of {G:Gh} {l:List AV} {u:Value} (r:R G (.tu l) u):∃ cs:Array Value,u=.tuple cs∧cs.size=l.length∧∀ (i:Nat) av u,l[i]?=some av→cs[i]?=some u→R G av u:=by
 cases r with
 | pu _ _ h=>cases h with|tu _ cs h1 h2=>exact ⟨cs,rfl,h1,fun i av u a b=>.pu _ _ (h2 i av u a b)⟩
 | tu _ cs h1 h2=>exact ⟨cs,rfl,h1,h2⟩
theorem R.fn_of {G:Gh} {f:FuncId} {l:List AV} {u:Value} (r:R G (.fn f l) u):∃ cs:Array Value,u=.func (.func f) #[] cs∧cs.size=l.length∧∀ (i:Nat) av u,l[i]?=some av→cs[i]?=some u→R G av u:=by
 cases r with
 | pu _ _ h=>cases h with|fn _ _ cs h1 h2=>exact ⟨cs,rfl,h1,fun i av u a b=>.pu _ _ (h2 i av u a b)⟩
 | fn _ _ cs h1 h2=>exact ⟨cs,rfl,h1,h2⟩
theorem R.pt_of {G:Gh} {k i j:Nat} {u:Value} (r:R G (.pt k i j) u):∃ p:Addr,u=.pointer (some p)∧p.block=G.b k∧p.off=i*G.n k+j∧p.spot=none:=by
 cases r with
 | pu _ _ h=>cases h
 | pt _ _ _ p a b c=>exact ⟨p,rfl,a,b,c⟩
theorem R.sl_of {G:Gh} {k:Nat} {u:Value} (r:R G (.sl k) u):u=G.h k∧u.oneCell'=true:=by
 cases r with
 | pu _ _ h=>cases h
 | sl _ h=>exact ⟨rfl,h⟩
theorem RP.ls_of {F:View} {n:Nat} {rows:List (List AV)} {v:Value} (r:RP F (.ls n rows) v):∃ A cap ad,∃ u:Nat→Nat→Value,v=.slice A rows.length cap∧(∀ r∈rows,r.length=n)∧(0<rows.length→A=some ad) ∧
  (∀ (i:Nat) r (j:Nat) av,rows[i]?=some r→r[j]?=some av→F (ad.add (i*n+j))=some (u i j)∧(u i j).oneCell'=true)∧(∀ (i:Nat) r (j:Nat) av,rows[i]?=some r→r[j]?=some av→RP F av (u i j))∧rows.length≤cap:=by
 cases r with|ls _ _ A cap ad u h0 h1 h2 h3 h4=>exact ⟨A,cap,ad,u,rfl,h1,h2,h3,h4,h0⟩
theorem RP.pr_of {F:View} {cells:List AV} {v:Value} (r:RP F (.pr cells) v):∃ p:Addr,∃ u:Nat→Value,v=.pointer (some p)∧(∀ (j:Nat) av,cells[j]?=some av→F (p.add j)=some (u j)∧(u j).oneCell'=true) ∧
   (∀ (j:Nat) av,cells[j]?=some av→RP F av (u j)):=by
 cases r with|pr _ p u h1 h2=>exact ⟨p,u,rfl,h1,h2⟩
inductive OW (F:View) (w:World):AV→Value→(Nat→Prop)→Prop
 | pu (av:AV) (v:Value) (φ:Nat→Prop):RP F av v→OW F w av v φ
 | ow (T n:Nat) (rows:List (List AV)) (v:Value) (φ:Nat→Prop) (vs:List (List Value)) (Φ:Nat→Nat→Nat→Prop):(∀ r∈rows,r.length=n)→w.ownsRow 0 T n v vs.length vs.flatten→vs.length=rows.length→(∀ r∈vs,∀ u∈r,u.oneCell'=true) →
   (∀ g,v.ownBlock=some g→φ g)→(∀ i j x,Φ i j x→φ x∧v.ownBlock≠some x)→(∀ i j i' j' x,Φ i j x→Φ i' j' x→i=i'∧j=j') →
   (∀ (i:Nat) r r',rows[i]?=some r→vs[i]?=some r'→r'.length=r.length) →
   (∀ (i:Nat) r r' (j:Nat) av u,rows[i]?=some r→vs[i]?=some r'→r[j]?=some av→r'[j]?=some u→OW F w av u (Φ i j))→OW F w (.ow T n rows) v φ
def CR (G:Gh) (w:World) (φ:Nat→Prop) (av:AV) (u:Value):Prop:=R G av u∨OW G.F w av u φ
def RowIs (w:World) (T n:Nat) (rows:List (List AV)) (v:Value) (φ:Nat→Prop) (X:Nat→Nat→(Nat→Prop)→AV→Value→Prop):Prop :=
 (∀ r∈rows,r.length=n)∧∃ (vs:List (List Value)) (Φ:Nat→Nat→Nat→Prop),w.ownsRow 0 T n v vs.length vs.flatten∧vs.length=rows.length∧(∀ r∈vs,∀ u∈r,u.oneCell'=true) ∧
   (∀ g,v.ownBlock=some g→φ g)∧(∀ i j x,Φ i j x→φ x∧v.ownBlock≠some x)∧(∀ i j i' j' x,Φ i j x→Φ i' j' x→i=i'∧j=j') ∧
   (∀ (i:Nat) r r',rows[i]?=some r→vs[i]?=some r'→r'.length=r.length) ∧
   (∀ (i:Nat) r r' (j:Nat) av u,rows[i]?=some r→vs[i]?=some r'→r[j]?=some av→r'[j]?=some u→X i j (Φ i j) av u)
def XP (F:View):Nat→Nat→(Nat→Prop)→AV→Value→Prop:=fun _ _ _ av u=>RP F av u
def XO (F:View) (w:World):Nat→Nat→(Nat→Prop)→AV→Value→Prop:=fun _ _ φ av u=>OW F w av u φ
def XH (G:Gh) (w:World) (hi hj:Nat):Nat→Nat→(Nat→Prop)→AV→Value→Prop:=fun i j φ av u=>if i=hi∧j=hj then R G av u else OW G.F w av u φ
theorem ownsRow_keep {w w':World} {B e size n:Nat} {v:Value} {xs:List Value} (h:w.ownsRow B e size v n xs) (hk:∀ g,v.ownBlock=some g→w'.heap[g]?=w.heap[g]?):w'.ownsRow B e size v n xs:=by
 refine ⟨h.1,?_⟩
 rcases h.2 with x|⟨g,cap,cur,e,hb,hh,hr⟩
 ·exact .inl x
 ·exact .inr ⟨g,cap,cur,e,hb,(hk g (by rw [e];rfl)).trans hh,hr⟩
theorem OW.keep {F F':View} {w w':World} {av:AV} {v:Value} {φ:Nat→Prop} (hF:F.le F') (h:OW F w av v φ):(∀ x,φ x→w'.heap[x]?=w.heap[x]?)→OW F' w' av v φ:=by
 induction h with
 | pu av v φ r=>exact fun _=>.pu av v φ (r.mono hF)
 | ow T n rows v φ vs Φ h1 h2 h3 h4 h5 h6 h7 h8 _ ih =>
  intro hw
  exact .ow T n rows v φ vs Φ h1 (ownsRow_keep h2 fun g hg=>hw g (h5 g hg)) h3 h4 h5 h6 h7 h8 fun i r r' j av u a b c d=>ih i r r' j av u a b c d fun x hx=>hw x (h6 i j x hx).1
theorem OW.wide {F:View} {w:World} {av:AV} {v:Value} {φ φ':Nat→Prop} (h:OW F w av v φ) (hp:∀ x,φ x→φ' x):OW F w av v φ':=by
 cases h with
 | pu _ _ _ r=>exact .pu av v φ' r
 | ow T n rows _ _ vs Φ h1 h2 h3 h4 h5 h6 h7 h8 h9=>exact .ow T n rows v φ' vs Φ h1 h2 h3 h4 (fun g hg=>hp g (h5 g hg)) (fun i j x hx=>⟨hp x (h6 i j x hx).1,(h6 i j x hx).2⟩) h7 h8 h9
theorem CR.keep {G G':Gh} {w w':World} {nk:Nat} {φ:Nat→Prop} {av:AV} {v:Value} (h:CR G w φ av v) (hle:G.le G' nk) (hb:Bd nk av) (hw:∀ x,φ x→w'.heap[x]?=w.heap[x]?):CR G' w' φ av v :=
 h.elim (fun r=>.inl (r.mono hle hb)) fun o=>.inr (o.keep hle.F hw)
def AV.own:AV→Bool
 | .ow _ _ _=>true
 | _=>false
theorem CR.r {G:Gh} {w:World} {φ:Nat→Prop} {av:AV} {v:Value} (h:CR G w φ av v) (ho:av.own=false):R G av v:=by
 rcases h with r|o
 ·exact r
 ·cases o with
  | pu _ _ _ r=>exact .pu _ _ r
  | ow=>cases ho
theorem OW.p {F:View} {w:World} {φ:Nat→Prop} {av:AV} {v:Value} (h:OW F w av v φ) (ho:av.own=false):RP F av v:=by
 cases h with
 | pu _ _ _ r=>exact r
 | ow=>cases ho
theorem CR.wide {G:Gh} {w:World} {φ φ':Nat→Prop} {av:AV} {v:Value} (h:CR G w φ av v) (hp:∀ x,φ x→φ' x):CR G w φ' av v:=h.elim .inl fun o=>.inr (o.wide hp)
def BldIs (w:World) (T e b:Nat) (φ:Nat→Prop) (l:List UInt8):Prop :=
 ∃ p v,(p=.pointer none∨p=.pointer (some ⟨b,0,none⟩))∧w.heap[b]?=some (.cells #[p,v] T (0,0))∧w.ownsRowF 0 e 1 v l.length (Lib.byteCells l)∧∀ g,v.ownBlock=some g→φ g∧g≠b
structure Opq where
 Q:World→Nat→Value→(Nat→Prop)→Prop
 st:∀ w w' b v φ,(∀ x,φ x→w'.heap[x]?=w.heap[x]?)→Q w b v φ→Q w' b v φ
inductive AO where
 | box (T:TypeId) (cells:List AV)
 | row (T:TypeId) (n:Nat) (rows:List (List AV))
 | rwn (T:TypeId) (n:Nat) (rows:List (List AV))
 | rof (T:TypeId) (n:Nat) (rows:List (List AV)) (hi hj:Nat)
 | bld (T e:TypeId) (l:List UInt8)
 | opq (q:Opq)
def RL (F:View) (l:List AV) (vs:List Value):Prop:=vs.length=l.length∧∀ (i:Nat) av u,l[i]?=some av→vs[i]?=some u→RP F av u
def BoxIs (w:World) (T b:Nat) (φ:Nat→Prop) (cells:List AV) (X:(Nat→Prop)→AV→Value→Prop):Prop :=
 ∃ (cs:Array Value) (Φ:Nat→Nat→Prop),Blk w b T cs∧cs.size=cells.length∧(∀ i x,Φ i x→φ x∧x≠b)∧(∀ i i' x,Φ i x→Φ i' x→i=i')∧∀ (i:Nat) av u,cells[i]?=some av→cs[i]?=some u→X (Φ i) av u
def ObAt (G:Gh) (w:World) (k:Nat):AO→Prop
 | .box T cells=>G.fp k (G.b k)∧BoxIs w T (G.b k) (G.fp k) cells (CR G w)
 | .row T n rows=>G.n k=n∧(∀ g,(G.h k).ownBlock=some g→g=G.b k)∧RowIs w T n rows (G.h k) (G.fp k) (XP G.F)
 | .rwn T n rows=>G.n k=n∧(∀ g,(G.h k).ownBlock=some g→g=G.b k)∧RowIs w T n rows (G.h k) (G.fp k) (XO G.F w)
 | .rof T n rows hi hj=>G.n k=n∧(∀ g,(G.h k).ownBlock=some g→g=G.b k)∧RowIs w T n rows (G.h k) (G.fp k) (XH G w hi hj)
 | .bld T e l=>G.fp k (G.b k)∧BldIs w T e (G.b k) (G.fp k) l
 | .opq q=>q.Q w (G.b k) (G.h k) (G.fp k)
def AO.bd (nk:Nat):AO→Prop
 | .box _ cells=>∀ (i:Nat) av,cells[i]?=some av→Bd nk av
 | .row _ _ _=>True
 | .rwn _ _ _=>True
 | .rof _ _ rows hi hj=>∀ r av,rows[hi]?=some r→r[hj]?=some av→Bd nk av
 | .bld _ _ _=>True
 | .opq _=>True
def look {α:Type} (i:Nat):List (Nat×α)→Option α
 | []=>none
 | x::r=>bif Nat.beq i x.1 then some x.2 else look i r
structure Kept (S:Nat→Prop) (w w':World):Prop where
 os:w'.os=w.os
 tape:w'.tape=w.tape
 output:w'.output=w.output
 size:w.heap.size≤w'.heap.size
 block:∀ k,k<w.heap.size→¬ S k→w'.heap[k]?=w.heap[k]?
theorem Kept.refl (S:Nat→Prop) (w:World):Kept S w w:=⟨rfl,rfl,rfl,Nat.le_refl _,fun _ _ _=>rfl⟩
theorem Kept.below {S:Nat→Prop} {w w':World} (h:Below w.heap.size w w'):Kept S w w':=⟨h.os,h.tape,h.output,h.size,fun i hi _=>h.block i hi⟩
theorem Kept.to_below {S:Nat→Prop} {w w':World} (h:Kept S w w') (hs:∀ x,¬ S x):Below w.heap.size w w':=⟨h.os,h.tape,h.output,h.size,fun i hi=>h.block i hi (hs i)⟩
theorem Kept.on {S S':Nat→Prop} {a b c:World} (h:Kept S a b) (k:Kept S' b c) (hs:∀ x,S' x→a.heap.size≤x∨S x):Kept S a c :=
 ⟨k.os.trans h.os,k.tape.trans h.tape,k.output.trans h.output,Nat.le_trans h.size k.size,fun i hi hn=>(k.block i (Nat.lt_of_lt_of_le hi h.size) fun x=>(hs i x).elim (fun y=>by omega) hn).trans (h.block i hi hn)⟩
structure Cx where
 w0:World
 F0:View
 N:Nat
 fp:Nat→Prop
 np:Nat
 pg:Gh
def Cx.may (C:Cx) (x:Nat):Prop:=C.w0.heap.size≤x∨C.fp x
structure St where
 t:List (Nat×AV)
 M:List (Nat×AO)
 nk:Nat
structure Ok (C:Cx) (σ:St) (G:Gh) (a:Act) (w:World):Prop where
 sz:a.tmps.size=C.N
 df:a.defers=[]∧C.np≤σ.nk∧∀ k,k<C.np→G.b k=C.pg.b k∧G.n k=C.pg.n k∧G.h k=C.pg.h k
 tm:∀ i av,look i σ.t=some av→i<C.N∧Bd σ.nk av∧R G av (a.tmps.getD i undef)
 bel:Kept C.fp C.w0 w
 fw:∀ p u,G.F p=some u→w.cell? p=some u
 f0:C.F0.le G.F
 f1:∀ p u,G.F p=some u→C.F0 p=some u∨C.may p.block
 ob:∀ k o,look k σ.M=some o→k<σ.nk∧o.bd σ.nk∧ObAt G w k o
 my:∀ k o x,look k σ.M=some o→G.fp k x→C.may x∧x<w.heap.size
 dj:∀ k o k' o' x,look k σ.M=some o→look k' σ.M=some o'→G.fp k x→G.fp k' x→k=k'
 dF:∀ k o x p u,look k σ.M=some o→G.fp k x→G.F p=some u→p.block≠x
theorem cell_block {w:World} {p:Addr} {u:Value} (h:w.cell? p=some u):p.block<w.heap.size:=by
 rcases Nat.lt_or_ge p.block w.heap.size with hlt|hge
 ·exact hlt
 ·simp [World.cell?,Array.getElem?_eq_none hge] at h
theorem look_set_same {α:Type} {i:Nat} {x:α} {r:List (Nat×α)}:look i ((i,x)::r)=some x:=by
 simp [look]
theorem look_set_other {α:Type} {i j:Nat} {x:α} {r:List (Nat×α)} (h:i≠j):look i ((j,x)::r)=look i r:=by
 have:Nat.beq i j=false:=by cases hb:Nat.beq i j with
  | false=>rfl
  | true=>exact absurd (Nat.eq_of_beq_eq_true hb) h
 simp [look,this]
end Go.Proofs.YtkgnmddakiagbaaGreatDoor
namespace Go.Proofs.YtkgnmddakiagbaaGreatDoor
open Go.RowKit
def St.ev (σ:St):Operand→Option AV
 | .tmp t=>look t σ.t
 | .const v=>some (.sc v)
 | .func f=>some (.sc (.func (.func f) #[] #[]))
 | .global g=>some (.sc (.pointer (some ⟨g,0,none⟩)))
def St.set (σ:St) (d:Option Tmp) (av:AV):St :=
 match d with
 | none=>σ
 | some d=>{ σ with t:=(d,av)::σ.t }
def St.put (σ:St) (d:Tmp) (av:AV):St:={ σ with t:=(d,av)::σ.t }
section
variable {P:Program} {C:Cx} {σ σ':St} {G G':Gh} {a:Act} {w w':World}
theorem Ok.evr (h:Ok C σ G a w) {x:Operand} {av:AV} (hx:σ.ev x=some av):Bd σ.nk av∧R G av (a.eval x):=by
 cases x with
 | tmp t=>exact ⟨(h.tm t av hx).2.1,(h.tm t av hx).2.2⟩
 | const v=>cases hx;exact ⟨.sc _,.pu _ _ (.sc _)⟩
 | func f=>cases hx;exact ⟨.sc _,.pu _ _ (.sc _)⟩
 | global g=>cases hx;exact ⟨.sc _,.pu _ _ (.sc _)⟩
theorem Ok.evs (h:Ok C σ G a w) {x:Operand} {v:Value} (hx:σ.ev x=some (.sc v)):a.eval x=v:=(h.evr hx).2.sc_eq
theorem getD_set_ (ts:Array Value) (d i:Nat) (v:Value) (hd:d<ts.size):(ts.setIfInBounds d v).getD i undef=if d=i then v else ts.getD i undef:=by
 by_cases e:d=i
 ·subst e;simp [Array.getD,hd]
 ·simp only [if_neg e,Array.getD_eq_getD_getElem?,Array.getElem?_setIfInBounds_ne e]
theorem Ok.set (h:Ok C σ G a w) {d:Option Tmp} {av:AV} {v:Value} (hR:R G av v) (hb:Bd σ.nk av) (hd:∀ x,d=some x→x<C.N):Ok C (σ.set d av) G (a.put d v) w:=by
 cases d with
 | none=>exact h
 | some d =>
  have hd:=hd d rfl
  refine ⟨?_,h.df,?_,h.bel,h.fw,h.f0,h.f1,h.ob,h.my,h.dj,h.dF⟩
  ·show (a.tmps.setIfInBounds d v).size=C.N
   rw [Array.size_setIfInBounds];exact h.sz
  ·intro i x hx
   show i<C.N∧Bd σ.nk x∧R G x ((a.tmps.setIfInBounds d v).getD i undef)
   rw [getD_set_ _ _ _ _ (by rw [h.sz];exact hd)]
   by_cases e:d=i
   ·subst e
    rw [show look d (St.set σ (some d) av).t=some av from look_set_same] at hx
    cases hx
    rw [if_pos rfl]
    exact ⟨hd,hb,hR⟩
   ·rw [show look i (St.set σ (some d) av).t=look i σ.t from look_set_other (fun x=>e x.symm)] at hx
    rw [if_neg e]
    exact h.tm i x hx
theorem ownsRowF_keep {w w':World} {B e size n:Nat} {v:Value} {xs:List Value} (h:w.ownsRowF B e size v n xs) (hk:∀ g,v.ownBlock=some g→w'.heap[g]?=w.heap[g]?):w'.ownsRowF B e size v n xs:=by
 refine ⟨h.1,?_⟩
 rcases h.2 with x|⟨g,cap,cur,fz,e,hb,hh,hr⟩
 ·exact .inl x
 ·exact .inr ⟨g,cap,cur,fz,e,hb,(hk g (by rw [e];rfl)).trans hh,hr⟩
theorem RowIs.keep {T n:Nat} {rows:List (List AV)} {v:Value} {φ:Nat→Prop} {X X':Nat→Nat→(Nat→Prop)→AV→Value→Prop} (h:RowIs w T n rows v φ X) (hw:∀ x,φ x→w'.heap[x]?=w.heap[x]?)
  (hX:∀ (i:Nat) r (j:Nat) av ψ u,rows[i]?=some r→r[j]?=some av→(∀ x,ψ x→w'.heap[x]?=w.heap[x]?)→X i j ψ av u→X' i j ψ av u):RowIs w' T n rows v φ X':=by
 obtain ⟨h1,vs,Φ,h2,h3,h4,h5,h6,h7,h8,h9⟩:=h
 exact ⟨h1,vs,Φ,ownsRow_keep h2 fun g hg=>hw g (h5 g hg),h3,h4,h5,h6,h7,h8,fun i r r' j av u a b c d=>hX i r j av _ u a c (fun x hx=>hw x (h6 i j x hx).1) (h9 i r r' j av u a b c d)⟩
theorem ObAt.keep {nk k:Nat} {o:AO} (h:ObAt G w k o) (hle:G.le G' nk) (hk:k<nk) (hb:o.bd nk) (hf:G'.fp k=G.fp k) (hw:∀ x,G.fp k x→w'.heap[x]?=w.heap[x]?):ObAt G' w' k o:=by
 cases o with
 | box T cells =>
  obtain ⟨h1,cs,Φ,h2,h3,h4,h5,h6⟩:=h
  refine ⟨by rw [hf,hle.b k hk];exact h1,cs,Φ,?_,h3,by rw [hf,hle.b k hk];exact h4,h5,fun i av u x y=>(h6 i av u x y).keep hle (hb i av x) fun z hz=>hw z (h4 i z hz).1⟩
  rw [hle.b k hk]
  exact (hw _ h1).trans h2
 | row T n rows =>
  obtain ⟨h1,h2,h3⟩:=h
  refine ⟨by rw [hle.n k hk];exact h1,by rw [hle.h k hk,hle.b k hk];exact h2,?_⟩
  rw [hf,hle.h k hk]
  exact h3.keep hw fun i r j av ψ u _ _ hψ x=>RP.mono hle.F x
 | rwn T n rows =>
  obtain ⟨h1,h2,h3⟩:=h
  refine ⟨by rw [hle.n k hk];exact h1,by rw [hle.h k hk,hle.b k hk];exact h2,?_⟩
  rw [hf,hle.h k hk]
  exact h3.keep hw fun i r j av ψ u _ _ hψ x=>OW.keep hle.F x hψ
 | rof T n rows hi hj =>
  obtain ⟨h1,h2,h3⟩:=h
  refine ⟨by rw [hle.n k hk];exact h1,by rw [hle.h k hk,hle.b k hk];exact h2,?_⟩
  rw [hf,hle.h k hk]
  refine h3.keep hw fun i r j av ψ u hr hav hψ x=>?_
  unfold XH at x ⊢
  by_cases e:i=hi∧j=hj
  ·rw [if_pos e] at x ⊢
   obtain ⟨rfl,rfl⟩:=e
   exact R.mono hle x (hb r av hr hav)
  ·rw [if_neg e] at x ⊢
   exact OW.keep hle.F x hψ
 | bld T e l =>
  obtain ⟨h1,p,v,h2,h3,h4,h5⟩:=h
  refine ⟨by rw [hf,hle.b k hk];exact h1,p,v,by rw [hle.b k hk];exact h2,?_,ownsRowF_keep h4 fun g hg=>hw g (h5 g hg).1,by rw [hf,hle.b k hk];exact h5⟩
  rw [hle.b k hk]
  exact (hw _ h1).trans h3
 | opq q =>
  show q.Q w' (G'.b k) (G'.h k) (G'.fp k)
  rw [hle.b k hk,hle.h k hk,hf]
  exact q.st _ _ _ _ _ hw h
theorem Ok.world {S:Nat→Prop} (h:Ok C σ G a w) (hle:G.le G' σ.nk) (hfp:∀ k,k<σ.nk→G'.fp k=G.fp k) (hb:Kept S w w') (hS:∀ x,S x→C.may x) (hw:∀ k o x,look k σ.M=some o→G.fp k x→w'.heap[x]?=w.heap[x]?)
  (hfw:∀ p u,G'.F p=some u→w'.cell? p=some u) (hn:∀ p u,G'.F p=some u→G.F p=some u∨w.heap.size≤p.block):Ok C σ G' a w':=by
 refine ⟨h.sz,⟨h.df.1,h.df.2.1,fun k hk=>by
  have hk2:=Nat.lt_of_lt_of_le hk h.df.2.1
  rw [hle.b k hk2,hle.n k hk2,hle.h k hk2];exact h.df.2.2 k hk⟩,fun i av x=>⟨(h.tm i av x).1,(h.tm i av x).2.1,(h.tm i av x).2.2.mono hle (h.tm i av x).2.1⟩,h.bel.on hb hS,hfw,fun p u x=>hle.F _ _ (h.f0 p u x),?_,?_,?_,?_,?_⟩
 ·intro p u x
  rcases hn p u x with y|y
  ·exact h.f1 p u y
  ·exact .inr (.inl (Nat.le_trans h.bel.size y))
 ·intro k o x
  obtain ⟨a1,a2,a3⟩:=h.ob k o x
  exact ⟨a1,a2,a3.keep hle a1 a2 (hfp k a1) (fun y hy=>hw k o y x hy)⟩
 ·intro k o x h1 h2
  rw [hfp k (h.ob k o h1).1] at h2
  exact ⟨(h.my k o x h1 h2).1,Nat.lt_of_lt_of_le (h.my k o x h1 h2).2 hb.size⟩
 ·intro k o k' o' x h1 h2 h3 h4
  rw [hfp k (h.ob k o h1).1] at h3
  rw [hfp k' (h.ob k' o' h2).1] at h4
  exact h.dj k o k' o' x h1 h2 h3 h4
 ·intro k o x p u h1 h2 h3
  rw [hfp k (h.ob k o h1).1] at h2
  rcases hn p u h3 with y|y
  ·exact h.dF k o x p u h1 h2 y
  ·have:=(h.my k o x h1 h2).2
   omega
theorem Ok.drew (h:Ok C σ G a w):Ok C σ G a w.drew :=
 h.world (S:=fun _=>False) (Gh.le.refl _ _) (fun _ _=>rfl) ⟨rfl,rfl,rfl,Nat.le_refl _,fun _ _ _=>rfl⟩ (fun _ x=>x.elim) (fun _ _ _ _ _=>rfl) h.fw (fun _ _ x=>.inl x)
end
def Tr (C:Cx) (σ σ':St):Prop:=∀ G a w,Ok C σ G a w→∃ G',Ok C σ' G' a w
def Post (C:Cx) (Q:Exit→St→Prop):Exit→Act→World→Prop:=fun e a w=>∃ σ G,Q e σ∧Ok C σ G a w
def W (P:Program) (C:Cx) (c:Code) (σ:St) (Q:Exit→St→Prop):Prop:=∀ G a w,Ok C σ G a w→c.wp P (Post C Q) a w
def WL (P:Program) (C:Cx) (ops:Array Oper) (l:List Oper) (σ:St) (Q:Exit→St→Prop):Prop:=∀ G a w,Ok C σ G a w→wpList P ops (Post C Q) l a w
def WO (P:Program) (C:Cx) (o:Oper) (σ σ':St):Prop :=
 ∀ G a w,Ok C σ G a w→∀ (N:Act→World→Prop) (Q':Exit→Act→World→Prop),(∀ G' a' w',Ok C σ' G' a' w'→N a' w')→o.wp P a w N Q'
section
variable {P:Program} {C:Cx} {σ σ':St} {Q Q':Exit→St→Prop}
theorem W.tr {c:Code} (h:Tr C σ σ') (k:W P C c σ' Q):W P C c σ Q:=fun G a w x=>by
 obtain ⟨G',y⟩:=h G a w x
 exact k G' a w y
theorem WL.tr {ops:Array Oper} {l:List Oper} (h:Tr C σ σ') (k:WL P C ops l σ' Q):WL P C ops l σ Q:=fun G a w x=>by
 obtain ⟨G',y⟩:=h G a w x
 exact k G' a w y
theorem W.mono {c:Code} (h:W P C c σ Q) (hq:∀ e s,Q e s→Q' e s):W P C c σ Q':=fun G a w x =>
 wp_mono (h G a w x) fun e a w ⟨s,g,q,o⟩=>⟨s,g,hq e s q,o⟩
theorem W.skip (h:Q .normal σ):W P C .skip σ Q:=fun G a w x=>wp_skip ⟨σ,G,h,x⟩
theorem W.exit {id:Nat} (h:Q (.exit id) σ):W P C (.exit id) σ Q:=fun G a w x=>wp_exit ⟨σ,G,h,x⟩
theorem W.ret (h:Q .ret σ):W P C .ret σ Q:=fun G a w x=>wp_ret ⟨σ,G,h,x⟩
def QThen (N:St→Prop) (Q:Exit→St→Prop):Exit→St→Prop
 | .normal,s=>N s
 | e,s=>Q e s
def QBlock (id:Nat) (Q:Exit→St→Prop):Exit→St→Prop
 | .exit id',s=>if id'=id then Q .normal s else Q (.exit id') s
 | e,s=>Q e s
theorem W.seq {x y:Code} (h:W P C x σ (QThen (fun s=>W P C y s Q) Q)):W P C (.seq x y) σ Q:=fun G a w ok =>
 wp_seq (wp_mono (h G a w ok) fun e a w ⟨s,g,q,o⟩=>by
  cases e with
  | normal=>exact q g a w o
  | exit id=>exact ⟨s,g,q,o⟩
  | goto l=>exact ⟨s,g,q,o⟩
  | ret=>exact ⟨s,g,q,o⟩
  | panic c=>exact ⟨s,g,q,o⟩
  | outgrown=>exact ⟨s,g,q,o⟩)
theorem W.seqM {x y:Code} (σm:St) (h:W P C x σ (QThen (fun s=>Tr C s σm) Q)) (k:W P C y σm Q):W P C (.seq x y) σ Q :=
 W.seq (W.mono h fun e s q=>by
  cases e with
  | normal=>exact W.tr q k
  | _=>exact q)
theorem W.block {id:Nat} {c:Code} (h:W P C c σ (QBlock id Q)):W P C (.block id c) σ Q:=fun G a w ok =>
 wp_block (wp_mono (h G a w ok) fun e a w ⟨s,g,q,o⟩=>by
  cases e with
  | exit id' =>
   show if id'=id then _ else _
   by_cases e:id'=id
   ·rw [if_pos e];exact ⟨s,g,by simpa [QBlock,e] using q,o⟩
   ·rw [if_neg e];exact ⟨s,g,by simpa [QBlock,e] using q,o⟩
  | normal=>exact ⟨s,g,q,o⟩
  | goto l=>exact ⟨s,g,q,o⟩
  | ret=>exact ⟨s,g,q,o⟩
  | panic c=>exact ⟨s,g,q,o⟩
  | outgrown=>exact ⟨s,g,q,o⟩)
theorem W.cond {c:Operand} {x y:Code} {t:Bool} (hc:σ.ev c=some (.sc (.bool t))) (h1:t=true→W P C x σ Q) (h2:t=false→W P C y σ Q):W P C (.cond c x y) σ Q:=fun G a w ok=>by
 refine wp_cond (ok.evs hc) ?_
 cases t
 ·exact h2 rfl G a w ok
 ·exact h1 rfl G a w ok
theorem W.loop {c:Code} {X:Type} (I:X→Prop) (S:X→St) (μ:X→Nat) (x0:X) (h0:I x0) (hi:Tr C σ (S x0))
  (round:∀ x,I x→W P C c (S x) (QThen (fun s=>∃ x',I x'∧μ x'<μ x∧Tr C s (S x')) Q)):W P C (.loop c) σ Q:=by
 intro G a w ok b k cs
 have key:∀ n x G a w,μ x=n→I x→Ok C (S x) G a w→∃ e a' w',Post C Q e a' w'∧Arrives P (lone (b.at a (.code c::.inLoop c::k)) cs w) b k cs e a' w':=by
  intro n
  induction n using Nat.strongRecOn with
  | _ n ih =>
   intro x G a w hn hI ok
   obtain ⟨e,a1,w1,⟨s,g,hq,o1⟩,harr⟩:=round x hI G a w ok b (.inLoop c::k) cs
   cases e with
   | normal =>
    obtain ⟨x',hI',hlt,ht⟩:=hq
    obtain ⟨g',o2⟩:=ht g a1 w1 o1
    obtain ⟨e2,a2,w2,hq2,harr2⟩:=ih (μ x') (hn ▸ hlt) x' g' a1 w1 rfl hI' o2
    exact ⟨e2,a2,w2,hq2,.of_steps (Steps.trans harr (.one step_inLoop)) harr2⟩
   | exit id=>exact ⟨_,a1,w1,⟨s,g,hq,o1⟩,.pass (x:=.inLoop c) rfl (fun _ _=>.inl (by simp)) harr⟩
   | goto l=>exact ⟨_,a1,w1,⟨s,g,hq,o1⟩,.pass (x:=.inLoop c) rfl (fun _ _=>.inl (by simp)) harr⟩
   | ret=>exact ⟨_,a1,w1,⟨s,g,hq,o1⟩,.pass (x:=.inLoop c) rfl (fun _ _=>.inl (by simp)) harr⟩
   | panic ch=>exact ⟨_,a1,w1,⟨s,g,hq,o1⟩,.pass (x:=.inLoop c) rfl (fun _ _=>.inl (by simp)) harr⟩
   | outgrown=>exact ⟨_,a1,w1,⟨s,g,hq,o1⟩,.pass (x:=.inLoop c) rfl (fun _ _=>.inl (by simp)) harr⟩
 obtain ⟨g0,ok0⟩:=hi G a w ok
 obtain ⟨e,a',w',hq,harr⟩:=key _ x0 g0 a w rfl h0 ok0
 exact ⟨e,a',w',hq,.of_steps (.one step_loop) harr⟩
theorem WL.nil {ops:Array Oper} (h:Q .normal σ):WL P C ops [] σ Q:=fun G a w ok=>wpList_nil ⟨σ,G,h,ok⟩
theorem WL.op {ops:Array Oper} {o:Oper} {rest:List Oper} (hg:o.guard=none) (h:WO P C o σ σ') (k:WL P C ops rest σ' Q):WL P C ops (o::rest) σ Q:=fun G a w ok =>
 wpList_plain hg fun K hK=>h G a w ok K _ fun G' a' w' ok'=>hK _ _ (k G' a' w' ok')
theorem of_blt {a b:Nat} (h:Nat.blt a b=true):a<b:=Nat.lt_of_succ_le (by simpa [Nat.blt] using h)
def vb:Value→Option Bool
 | .bool b=>some b
 | _=>none
theorem yielded_of {ops:Array Oper} {G:Gh} {a:Act} {w:World} (ok:Ok C σ G a w) {j:Nat} {oj:Oper} {d:Tmp} {v:Value} (hj:ops[j]?=some oj) (hd:oj.dst=some d) (hv:look d σ.t=some (.sc v)) :
  yielded ops a.tmps j=vb v:=by
 have h1:=ok.tm d _ hv
 have h2:=h1.2.2.sc_eq
 have h3:a.tmps[d]?=some v:=by
  have hlt:d<a.tmps.size:=by rw [ok.sz];exact h1.1
  rw [Array.getElem?_eq_getElem hlt]
  simpa [Array.getD,hlt] using h2
 simp only [yielded,hj,Option.bind_some,hd,h3]
 cases v<;>rfl
theorem WL.opn {ops:Array Oper} {o oj:Oper} {rest:List Oper} {j:Nat} {b:Bool} {d d':Tmp} {v:Value} (hg:o.guard=some (j,b)) (hj:ops[j]?=some oj) (hd:oj.dst=some d) (hv:look d σ.t=some (.sc v))
  (hb:vb v≠some b) (hds:o.dst=some d') (hdn:Nat.blt d' C.N=true) (h:WL P C ops rest (σ.put d' (.sc undef)) Q):WL P C ops (o::rest) σ Q:=fun G a w ok =>
 wpList_step fun K hK=>by
  have hy:=yielded_of (ops:=ops) ok hj hd hv
  rw [if_neg (by simp only [Region.wanted,hg,hy];simpa using hb)]
  rw [hds]
  exact hK _ _ (h G _ w (ok.set (d:=some d') (.pu _ _ (.sc _)) (.sc _) fun x hx=>by cases hx;exact of_blt hdn))
theorem WL.part {ops:Array Oper} {l:List Oper} {d:Tmp} {b:Bool} (hv:look d σ.t=some (.sc (.bool b))) (h1:b=true→WL P C ops l (σ.set (some d) (.sc (.bool true))) Q) (h2:b=false→WL P C ops l (σ.set (some d) (.sc (.bool false))) Q):WL P C ops l σ Q:=fun G a w ok=>by
 have key:∀ c,b=c→Ok C (σ.set (some d) (.sc (.bool c))) G a w:=fun c e=>by
  subst e
  refine ⟨ok.sz,ok.df,fun i x hx=>?_,ok.bel,ok.fw,ok.f0,ok.f1,ok.ob,ok.my,ok.dj,ok.dF⟩
  by_cases hi:i=d
  ·subst hi
   rw [show look i (St.set σ (some i) (.sc (.bool b))).t=_ from look_set_same] at hx
   cases hx
   exact ok.tm i _ hv
  ·rw [show look i (St.set σ (some d) (.sc (.bool b))).t=_ from look_set_other hi] at hx
   exact ok.tm i x hx
 cases b
 ·exact h2 rfl G a w (key _ rfl)
 ·exact h1 rfl G a w (key _ rfl)
end
def Ctr (P:Program) (f:FuncId) (args:List AV) (res:AV):Prop :=
 ∀ (w:World) (F:View) (vs:List Value),(∀ p u,F p=some u→w.cell? p=some u)→RL F args vs →
  Calls P f vs.toArray w fun e w'=>∃ v F',e=.returned v∧Below w.heap.size w w'∧View.le F F'∧(∀ p u,F' p=some u→w'.cell? p=some u)∧(∀ p u,F' p=some u→F p=some u∨w.heap.size≤p.block)∧RP F' res v
def number {α:Type}:Nat→List α→List (Nat×α)
 | _,[]=>[]
 | n,x::r=>(n,x)::number (n+1) r
theorem look_number {α:Type}:∀ (l:List α) (n i:Nat) (x:α),look i (number n l)=some x→n≤i∧l[i-n]?=some x
 | [],n,i,x,h=>by cases h
 | y::r,n,i,x,h=>by
  by_cases e:i=n
  ·subst e
   rw [show look i (number i (y::r))=some y from look_set_same] at h
   cases h
   simp
  ·rw [show look i (number n (y::r))=look i (number (n+1) r) from look_set_other e] at h
   obtain ⟨h1,h2⟩:=look_number r (n+1) i x h
   refine ⟨by omega,?_⟩
   rw [show i-n=(i-(n+1))+1 by omega]
   simpa using h2
def St.init (args:List AV):St:=⟨number 0 args,[],0⟩
def G0:Gh:=⟨fun _=>none,fun _=>0,fun _=>0,fun _=>undef,fun _ _=>False⟩
def Fin (P:Program) (fn:Func) (C:Cx) (σ:St) (res:AV):Prop :=
 ∀ G a w,Ok C σ G a w→∃ v F',(results fn a.tmps).run P w=.ok v w∧View.le G.F F'∧(∀ p u,F' p=some u→w.cell? p=some u)∧(∀ p u,F' p=some u→G.F p=some u∨C.may p.block)∧RP F' res v
def QFin (P:Program) (fn:Func) (C:Cx) (res:AV):Exit→St→Prop:=fun e σ=>(e=.normal∨e=.ret)∧Fin P fn C σ res
theorem Ctr.intro {P:Program} {f:FuncId} {fn:Func} {c:Code} {args:List AV} {res:AV} (hf:P.funcs[f]?=some fn) (hb:fn.body=some c) {N:Nat} (hN:fn.ntmps=N) (hn:args.length≤N) (hp:∀ (i:Nat) av,args[i]?=some av→Bd 0 av)
  (h:∀ w0 F0,W P ⟨w0,F0,N,fun _=>False,0,G0⟩ c (St.init args) (QFin P fn ⟨w0,F0,N,fun _=>False,0,G0⟩ res)):Ctr P f args res:=by
 intro w F vs hF hR
 subst hN
 refine calls_of_wp hf hb ?_
 have hsz:vs.toArray.size=args.length:=by simpa using hR.1
 have h1:=h w F ⟨F,fun _=>0,fun _=>0,fun _=>undef,fun _ _=>False⟩ { tmps:=vs.toArray++Array.replicate (fn.ntmps - vs.toArray.size) undef,defers:=[] } w
  ⟨by simp;have:=hR.1;omega,⟨rfl,Nat.le_refl _,fun k hk=>absurd hk (Nat.not_lt_zero k)⟩,fun i av hx=>by
   obtain ⟨_,h2⟩:=look_number args 0 i av hx
   simp only [Nat.sub_zero] at h2
   have hi:i < args.length:=(List.getElem?_eq_some_iff.1 h2).1
   have hv:i < vs.length:=by rw [hR.1];exact hi
   refine ⟨by show i < fn.ntmps;omega,hp i av h2,.pu _ _ (hR.2 i av _ h2 ?_)⟩
   simp [Array.getD_eq_getD_getElem?,Array.getElem?_append_left,hv],
   Kept.refl _ _,hF,fun _ _ h=>h,fun _ _ h=>.inl h,(fun k o h=>by cases h),(fun k o x h=>by cases h),(fun k o k' o' x h=>by cases h),(fun k o x p u h=>by cases h)⟩
 refine wp_mono h1 fun e a w' ⟨σ,G,⟨he,hfin⟩,ok⟩=>?_
 obtain ⟨v,F',hr,hle,hfw,hnew,hres⟩:=hfin G a w' ok
 rcases he with rfl|rfl
 ·exact ⟨ok.df.1,v,hr,v,F',rfl,ok.bel.to_below (fun _ h=>h),fun p u x=>hle p u (ok.f0 p u x),hfw,fun p u x=>(hnew p u x).elim (fun y=>(ok.f1 p u y).elim .inl fun z=>.inr (z.elim id fun h=>h.elim)) fun z=>.inr (z.elim id fun h=>h.elim),hres⟩
 ·exact ⟨ok.df.1,v,hr,v,F',rfl,ok.bel.to_below (fun _ h=>h),fun p u x=>hle p u (ok.f0 p u x),hfw,fun p u x=>(hnew p u x).elim (fun y=>(ok.f1 p u y).elim .inl fun z=>.inr (z.elim id fun h=>h.elim)) fun z=>.inr (z.elim id fun h=>h.elim),hres⟩
theorem Bd.rp {G:Gh} {av:AV} {v:Value} (b:Bd 0 av) (r:R G av v):RP G.F av v:=by
 induction r with
 | pu _ _ h=>exact h
 | pt k i j p=>cases b with|pt _ _ _ h=>exact absurd h (by omega)
 | sl k=>cases b with|sl _ h=>exact absurd h (by omega)
 | ag l cs h1 _ ih=>cases b with|ag _ hb=>exact .ag l cs h1 fun i av u x y=>ih i av u x y (hb i av x)
 | tu l cs h1 _ ih=>cases b with|tu _ hb=>exact .tu l cs h1 fun i av u x y=>ih i av u x y (hb i av x)
 | fn f l cs h1 _ ih=>cases b with|fn _ _ hb=>exact .fn f l cs h1 fun i av u x y=>ih i av u x y (hb i av x)
theorem Fin.one {P:Program} {fn:Func} {C:Cx} {σ:St} {t:Tmp} {res:AV} (h:fn.results=#[.tmp t]) (ht:look t σ.t=some res) (hb:Bd 0 res):Fin P fn C σ res:=fun G a w ok =>
 ⟨a.tmps.getD t undef,G.F,results_tmp h _ _ _,fun _ _ h=>h,ok.fw,fun _ _ h=>.inl h,hb.rp (ok.tm t _ ht).2.2⟩
theorem Fin.two {P:Program} {fn:Func} {C:Cx} {σ:St} {t u:Tmp} {r1 r2:AV} (h:fn.results=#[.tmp t,.tmp u]) (h1:look t σ.t=some r1) (h2:look u σ.t=some r2) (b1:Bd 0 r1) (b2:Bd 0 r2):Fin P fn C σ (.tu [r1,r2]):=fun G a w ok =>
 ⟨.tuple #[a.tmps.getD t undef,a.tmps.getD u undef],G.F,results_tmp2 h _ _ _,fun _ _ h=>h,ok.fw,fun _ _ h=>.inl h,.tu _ _ rfl fun i av x ha hx=>by
  match i with
  | 0=>cases ha;cases hx;exact b1.rp (ok.tm t _ h1).2.2
  | 1=>cases ha;cases hx;exact b2.rp (ok.tm u _ h2).2.2
  | n+2=>simp at ha⟩
end Go.Proofs.YtkgnmddakiagbaaGreatDoor
namespace Go.Proofs.YtkgnmddakiagbaaGreatDoor
open Go.RowKit
section
variable {P:Program} {C:Cx} {σ σ':St} {o:Oper} {d:Tmp}
def WV (P:Program) (C:Cx) (o:Oper) (σ:St) (av:AV):Prop :=
 ∀ G a w,Ok C σ G a w→∀ (N:Act→World→Prop) (Q':Exit→Act→World→Prop),
  (∀ v G' w',(∀ σ'' a'',Ok C σ'' G a'' w→Ok C σ'' G' a'' w')→R G' av v→Bd σ.nk av→N (a.put o.dst v) w')→o.wp P a w N Q'
theorem WO.of_wv {av:AV} (hds:o.dst=some d) (hd:Nat.blt d C.N=true) (h:WV P C o σ av):WO P C o σ (σ.put d av):=fun G a w ok N Q' hN =>
 h G a w ok N Q' fun v G' w' hk hr hb=>by
  rw [hds]
  exact hN G' _ w' ((hk σ a ok).set (d:=some d) hr hb fun x hx=>by cases hx;exact of_blt hd)
theorem WL.opv {ops:Array Oper} {rest:List Oper} {Q:Exit→St→Prop} {av:AV} (hg:o.guard=none) (hds:o.dst=some d) (hd:Nat.blt d C.N=true) (h:WV P C o σ av) (k:WL P C ops rest (σ.put d av) Q):WL P C ops (o::rest) σ Q :=
 WL.op hg (WO.of_wv hds hd h) k
theorem WV.val {av:AV} (hb:∀ G a w,Ok C σ G a w→Bd σ.nk av) (h:∀ G a w,Ok C σ G a w→∃ v,(execOp a.eval o).run P w=.ok (.value v) w∧R G av v):WV P C o σ av:=by
 intro G a w ok N Q' hN
 obtain ⟨v,h1,h2⟩:=h G a w ok
 unfold Oper.wp
 rw [h1]
 exact hN v G w (fun _ _ h=>h) h2 (hb G a w ok)
theorem WV.sc {v:Value} (h:∀ G a w,Ok C σ G a w→(execOp a.eval o).run P w=.ok (.value v) w):WV P C o σ (.sc v) :=
 WV.val (fun _ _ _ _=>.sc v) fun G a w ok=>⟨v,h G a w ok,.pu _ _ (.sc v)⟩
theorem WV.move {x:Operand} {av:AV} (ho:o.op=.move x) (hx:σ.ev x=some av):WV P C o σ av :=
 WV.val (fun G a w ok=>(ok.evr hx).1) fun G a w ok=>⟨a.eval x,by unfold execOp;simp only [ho];rfl,(ok.evr hx).2⟩
theorem WV.assign {x:Operand} {av:AV} (ho:o.op=.assign x) (hx:σ.ev x=some av):WV P C o σ av :=
 WV.val (fun G a w ok=>(ok.evr hx).1) fun G a w ok=>⟨a.eval x,by unfold execOp;simp only [ho];rfl,(ok.evr hx).2⟩
theorem WV.pickT {c x y:Operand} {av:AV} (ho:o.op=.pick c x y) (hc:σ.ev c=some (.sc (.bool true))) (hx:σ.ev x=some av):WV P C o σ av :=
 WV.val (fun G a w ok=>(ok.evr hx).1) fun G a w ok=>⟨a.eval x,by unfold execOp;simp [ho,ok.evs hc,asBool],(ok.evr hx).2⟩
theorem WV.pickF {c x y:Operand} {av:AV} (ho:o.op=.pick c x y) (hc:σ.ev c=some (.sc (.bool false))) (hy:σ.ev y=some av):WV P C o σ av :=
 WV.val (fun G a w ok=>(ok.evr hy).1) fun G a w ok=>⟨a.eval y,by unfold execOp;simp [ho,ok.evs hc,asBool],(ok.evr hy).2⟩
theorem WV.pickS {c x y:Operand} {b:Bool} {u v:Value} (ho:o.op=.pick c x y) (hc:σ.ev c=some (.sc (.bool b))) (hx:σ.ev x=some (.sc u)) (hy:σ.ev y=some (.sc v)):WV P C o σ (.sc (if b=true then u else v)) :=
 WV.sc fun G a w ok=>by unfold execOp;cases b<;>simp [ho,ok.evs hc,ok.evs hx,ok.evs hy,asBool]
/-! Integers. -/
def I64 (z:Int):Prop:=-9223372036854775808≤z∧z<9223372036854775808
theorem I64.wrap {z:Int} (h:I64 z):IntKind.i64.wrap z=z:=Go.IntWalk.i64_in z ⟨h.1,by have:=h.2;omega⟩
theorem WV.add {T Ty:TypeId} {x y:Operand} {m n:Int} (ho:o.op=.binOp .add T x y Ty) (hx:σ.ev x=some (.sc (.int .i64 m))) (hy:σ.ev y=some (.sc (.int .i64 n))) (hb:I64 (m+n)):WV P C o σ (.sc (.int .i64 (m+n))) :=
 WV.sc fun G a w ok=>by unfold execOp;simp [ho,ok.evs hx,ok.evs hy,eqGuard,binOp,Op.intArith,hb.wrap]
theorem WV.sub {T Ty:TypeId} {x y:Operand} {m n:Int} (ho:o.op=.binOp .sub T x y Ty) (hx:σ.ev x=some (.sc (.int .i64 m))) (hy:σ.ev y=some (.sc (.int .i64 n))) (hb:I64 (m-n)):WV P C o σ (.sc (.int .i64 (m-n))) :=
 WV.sc fun G a w ok=>by unfold execOp;simp [ho,ok.evs hx,ok.evs hy,eqGuard,binOp,Op.intArith,hb.wrap]
theorem WV.mul {T Ty:TypeId} {x y:Operand} {m n:Int} (ho:o.op=.binOp .mul T x y Ty) (hx:σ.ev x=some (.sc (.int .i64 m))) (hy:σ.ev y=some (.sc (.int .i64 n))) (hb:I64 (m*n)):WV P C o σ (.sc (.int .i64 (m*n))) :=
 WV.sc fun G a w ok=>by unfold execOp;simp [ho,ok.evs hx,ok.evs hy,eqGuard,binOp,Op.intArith,hb.wrap]
theorem WV.lss {T Ty:TypeId} {x y:Operand} {k:IntKind} {m n:Int} (ho:o.op=.binOp .lss T x y Ty) (hx:σ.ev x=some (.sc (.int k m))) (hy:σ.ev y=some (.sc (.int k n))):WV P C o σ (.sc (.bool (decide (m<n)))) :=
 WV.sc fun G a w ok=>by unfold execOp;simp [ho,ok.evs hx,ok.evs hy,eqGuard,binOp,Op.intCmp]
theorem WV.leq {T Ty:TypeId} {x y:Operand} {k:IntKind} {m n:Int} (ho:o.op=.binOp .leq T x y Ty) (hx:σ.ev x=some (.sc (.int k m))) (hy:σ.ev y=some (.sc (.int k n))):WV P C o σ (.sc (.bool (decide (m≤n)))) :=
 WV.sc fun G a w ok=>by unfold execOp;simp [ho,ok.evs hx,ok.evs hy,eqGuard,binOp,Op.intCmp]
theorem WV.gtr {T Ty:TypeId} {x y:Operand} {k:IntKind} {m n:Int} (ho:o.op=.binOp .gtr T x y Ty) (hx:σ.ev x=some (.sc (.int k m))) (hy:σ.ev y=some (.sc (.int k n))):WV P C o σ (.sc (.bool (decide (n<m)))) :=
 WV.sc fun G a w ok=>by unfold execOp;simp [ho,ok.evs hx,ok.evs hy,eqGuard,binOp,Op.intCmp]
theorem WV.geq {T Ty:TypeId} {x y:Operand} {k:IntKind} {m n:Int} (ho:o.op=.binOp .geq T x y Ty) (hx:σ.ev x=some (.sc (.int k m))) (hy:σ.ev y=some (.sc (.int k n))):WV P C o σ (.sc (.bool (decide (n≤m)))) :=
 WV.sc fun G a w ok=>by unfold execOp;simp [ho,ok.evs hx,ok.evs hy,eqGuard,binOp,Op.intCmp]
theorem WV.eql {T Ty:TypeId} {x y:Operand} {k:IntKind} {m n:Int} (ho:o.op=.binOp .eql T x y Ty) (hx:σ.ev x=some (.sc (.int k m))) (hy:σ.ev y=some (.sc (.int k n))):WV P C o σ (.sc (.bool (decide (m=n)))) :=
 WV.sc fun G a w ok=>by unfold execOp;simp [ho,ok.evs hx,ok.evs hy,eqGuard,binOp,Op.intCmp];rfl
theorem WV.neq {T Ty:TypeId} {x y:Operand} {k:IntKind} {m n:Int} (ho:o.op=.binOp .neq T x y Ty) (hx:σ.ev x=some (.sc (.int k m))) (hy:σ.ev y=some (.sc (.int k n))):WV P C o σ (.sc (.bool (!decide (m=n)))) :=
 WV.sc fun G a w ok=>by unfold execOp;simp [ho,ok.evs hx,ok.evs hy,eqGuard,binOp,Op.intCmp];rfl
theorem WV.not {T:TypeId} {x:Operand} {b:Bool} (ho:o.op=.unOp .not T x) (hx:σ.ev x=some (.sc (.bool b))):WV P C o σ (.sc (.bool (!b))) :=
 WV.sc fun G a w ok=>by unfold execOp;simp [ho,ok.evs hx,Op.unary]
theorem WV.beq {T Ty:TypeId} {x y:Operand} {b c:Bool} (ho:o.op=.binOp .eql T x y Ty) (hT:P.underlying T=some .bool) (hx:σ.ev x=some (.sc (.bool b))) (hy:σ.ev y=some (.sc (.bool c))):WV P C o σ (.sc (.bool (b == c))) :=
 WV.sc fun G a w ok=>by unfold execOp;simp [ho,ok.evs hx,ok.evs hy,eqGuard,binOp,run_equal_bool w T b c hT]
theorem WV.bne {T Ty:TypeId} {x y:Operand} {b c:Bool} (ho:o.op=.binOp .neq T x y Ty) (hT:P.underlying T=some .bool) (hx:σ.ev x=some (.sc (.bool b))) (hy:σ.ev y=some (.sc (.bool c))):WV P C o σ (.sc (.bool (!(b == c)))) :=
 WV.sc fun G a w ok=>by unfold execOp;simp [ho,ok.evs hx,ok.evs hy,eqGuard,binOp,run_equal_bool w T b c hT]
def scs:List AV→Option (List Value)
 | []=>some []
 | .sc v::r=>(scs r).map (v::·)
 | _=>none
theorem scs_of {G:Gh}:∀ {l:List AV} {xs:List Value},scs l=some xs→∀ {cs:List Value},cs.length=l.length→(∀ (i:Nat) av u,l[i]?=some av→cs[i]?=some u→R G av u)→cs=xs:=by
 intro l
 induction l with
 | nil=>intro xs h cs hl _;cases h;exact List.eq_nil_of_length_eq_zero hl
 | cons a r ih =>
  intro xs h cs hl hc
  cases a with
  | sc v =>
   cases hr:scs r with
   | none=>simp [scs,hr] at h
   | some ys =>
    simp [scs,hr] at h
    subst h
    cases cs with
    | nil=>simp at hl
    | cons u us =>
     have h0:=(hc 0 (.sc v) u rfl rfl).sc_eq
     have:=ih hr (cs:=us) (by simpa using hl) (fun i av x p q=>hc (i+1) av x (by simpa using p) (by simpa using q))
     rw [h0,this]
  | _=>simp [scs] at h
theorem Ok.agg {G:Gh} {a:Act} {w:World} (ok:Ok C σ G a w) {x:Operand} {l:List AV} {xs:List Value} (hx:σ.ev x=some (.ag l)) (hs:scs l=some xs):a.eval x=.agg xs.toArray:=by
 obtain ⟨cs,e,h1,h2⟩:=(ok.evr hx).2.ag_of
 rw [e,← scs_of hs (cs:=cs.toList) (by simpa using h1) (fun i av u p q=>h2 i av u p (by simpa using q))]
theorem WV.ane {T Ty:TypeId} {x y:Operand} {l m:List AV} {xs ys:List Value} {b:Bool} (ho:o.op=.binOp .neq T x y Ty) (hx:σ.ev x=some (.ag l)) (h1:scs l=some xs) (hy:σ.ev y=some (.ag m)) (h2:scs m=some ys)
  (hg:P.eqGuardType P.depth T=false) (he:∀ w,(Op.equalIn 10000 T (.agg xs.toArray) (.agg ys.toArray)).run P w=.ok b w):WV P C o σ (.sc (.bool (!b))) :=
 WV.sc fun G a w ok=>by unfold execOp;simp [ho,ok.agg hx h1,ok.agg hy h2,run_eqGuard_agg w _ T x y _ _ hg,run_neq_struct,he]
/-! Strings, as lists of bytes. -/
theorem WV.seq_ {T Ty:TypeId} {x y:Operand} {s t:List UInt8} (ho:o.op=.binOp .eql T x y Ty) (hx:σ.ev x=some (.sc (.string (bs s)))) (hy:σ.ev y=some (.sc (.string (bs t)))):WV P C o σ (.sc (.bool (s == t))) :=
 WV.sc fun G a w ok=>by unfold execOp;simp [ho,ok.evs hx,ok.evs hy,eqGuard,binOp,Op.stringOp,bs_toList]
theorem WV.sne {T Ty:TypeId} {x y:Operand} {s t:List UInt8} (ho:o.op=.binOp .neq T x y Ty) (hx:σ.ev x=some (.sc (.string (bs s)))) (hy:σ.ev y=some (.sc (.string (bs t)))):WV P C o σ (.sc (.bool (!(s == t)))) :=
 WV.sc fun G a w ok=>by unfold execOp;simp [ho,ok.evs hx,ok.evs hy,eqGuard,binOp,Op.stringOp,bs_toList]
theorem WV.cat {T Ty:TypeId} {x y:Operand} {s t:List UInt8} (ho:o.op=.binOp .add T x y Ty) (hx:σ.ev x=some (.sc (.string (bs s)))) (hy:σ.ev y=some (.sc (.string (bs t)))) (hl:s.length+t.length<9223372036854775808):WV P C o σ (.sc (.string (bs (s++t)))) :=
 WV.sc fun G a w ok=>by
  have h1:¬ ((((bs s).size+(bs t).size:Nat):Int) > IntKind.i64.max):=by
   rw [bs_size,bs_size]
   have:IntKind.i64.max=9223372036854775807:=by decide
   rw [this];omega
  unfold execOp
  simp only [ho,ok.evs hx,ok.evs hy,eqGuard,binOp,Op.stringOp,if_neg h1]
  simp [bs_append]
/-! Tuples, lengths. -/
theorem WV.extract {x:Operand} {i:Nat} {l:List AV} {av:AV} (ho:o.op=.extract x i) (hx:σ.ev x=some (.tu l)) (hi:l[i]?=some av):WV P C o σ av :=
 WV.val (fun G a w ok=>by cases (ok.evr hx).1 with|tu _ h=>exact h i av hi) fun G a w ok=>by
  obtain ⟨cs,e,h1,h2⟩:=(ok.evr hx).2.tu_of
  have hlt:i<cs.size:=by rw [h1];exact (List.getElem?_eq_some_iff.1 hi).1
  refine ⟨cs[i],?_,h2 i av _ hi (Array.getElem?_eq_getElem hlt)⟩
  unfold execOp
  simp [ho,e,Instr.extract,Array.getElem?_eq_getElem hlt]
theorem WV.lenL {x:Operand} {T e:TypeId} {n:Nat} {rows:List (List AV)} (ho:o.op=.call { callee:=.builtin .len,args:=#[x],argTypes:=#[T] }) (hT:P.underlying T=some (.slice e)) (hx:σ.ev x=some (.ls n rows)) {m:Nat} (hm:rows.length=m):WV P C o σ (.sc (.int .i64 m)) :=
 WV.sc fun G a w ok=>by
  obtain ⟨A,cap,ad,u,e,_⟩:=(ok.evr hx).2.pu_of.ls_of
  subst hm
  unfold execOp
  simp [ho,resolve,invoke,builtin,e,Builtin.len_,run_underlying hT,goInt]
theorem RowIs.len {w:World} {T n:Nat} {rows:List (List AV)} {v:Value} {φ:Nat→Prop} {X:Nat→Nat→(Nat→Prop)→AV→Value→Prop} (h:RowIs w T n rows v φ X):∃ A c,v=.slice A rows.length c:=by
 obtain ⟨_,vs,Φ,h4,h5,_⟩:=h
 rcases h4.2 with⟨e,e2⟩|⟨g,cap,cur,e,_⟩
 ·exact ⟨none,0,by rw [e,← h5,e2]⟩
 ·exact ⟨_,cap,by rw [e,h5]⟩
def AO.rows?:AO→Option (List (List AV))
 | .row _ _ rows=>some rows
 | .rwn _ _ rows=>some rows
 | .rof _ _ rows _ _=>some rows
 | _=>none
theorem ObAt.len {G:Gh} {w:World} {k:Nat} {ob:AO} {rows:List (List AV)} (h:ObAt G w k ob) (hr:ob.rows?=some rows):∃ A c,G.h k=.slice A rows.length c:=by
 cases ob with
 | row T n rs=>cases hr;exact h.2.2.len
 | rwn T n rs=>cases hr;exact h.2.2.len
 | rof T n rs hi hj=>cases hr;exact h.2.2.len
 | _=>cases hr
theorem WV.lenS {x:Operand} {T e:TypeId} {k:Nat} {ob:AO} {rows:List (List AV)} (ho:o.op=.call { callee:=.builtin .len,args:=#[x],argTypes:=#[T] }) (hT:P.underlying T=some (.slice e)) (hx:σ.ev x=some (.sl k)) (hk:look k σ.M=some ob) (hr:ob.rows?=some rows) {m:Nat} (hm:rows.length=m):WV P C o σ (.sc (.int .i64 m)) :=
 WV.sc fun G a w ok=>by
  have e:=(ok.evr hx).2.sl_of.1
  obtain ⟨A,c,e2⟩:=(ok.ob k _ hk).2.2.len hr
  rw [e2] at e
  subst hm
  unfold execOp
  simp [ho,resolve,invoke,builtin,e,Builtin.len_,run_underlying hT,goInt]
theorem WV.lenN {x:Operand} {T e:TypeId} {A:Option Addr} {m c:Nat} (ho:o.op=.call { callee:=.builtin .len,args:=#[x],argTypes:=#[T] }) (hT:P.underlying T=some (.slice e)) (hx:σ.ev x=some (.sc (.slice A m c))):WV P C o σ (.sc (.int .i64 m)) :=
 WV.sc fun G a w ok=>by
  unfold execOp
  simp [ho,resolve,invoke,builtin,ok.evs hx,Builtin.len_,run_underlying hT,goInt]
theorem WV.lenB {x:Operand} {T:TypeId} {s:List UInt8} (ho:o.op=.call { callee:=.builtin .len,args:=#[x],argTypes:=#[T] }) (hT:P.underlying T=some .string) (hx:σ.ev x=some (.sc (.string (bs s)))):WV P C o σ (.sc (.int .i64 s.length)) :=
 WV.sc fun G a w ok=>by
  unfold execOp
  simp [ho,resolve,invoke,builtin,ok.evs hx,Builtin.len_,run_underlying hT,goInt,bs_size]
/-! Pointers. -/
theorem add_ptr {b j:Nat} (p:Addr) (h1:p.block=b) (h3:p.spot=none):(p.add j).block=b∧(p.add j).off=p.off+j∧(p.add j).spot=none:=by
 unfold Addr.add
 by_cases e:j=0
 ·subst e;simp [h1,h3]
 ·simp [e,h1]
end
end Go.Proofs.YtkgnmddakiagbaaGreatDoor
namespace Go.Proofs.YtkgnmddakiagbaaGreatDoor
open Go.RowKit
set_option maxHeartbeats 400000
set_option maxRecDepth 100000
attribute [local go_sem] mk_bs bs_size bs_toList bs_append bs_extract
attribute [local simp] run_cut run_cut_to run_cut_from run_add_bs
theorem known_any (n:Int) (w:World):Calls Tryz.prog 77 #[.int .u8 n] w fun e w'=>e=.returned (.bool (decide (1≤n∧n≤4)))∧w'=w:=by
 by_cases h:1≤n∧n≤4
 ·rw [decide_eq_true h]
  obtain ⟨h1,h4⟩:=h
  go_enter Tryz.func77,Tryz.ntmps77
  go_wp2
  go_ret
  exact ⟨rfl,rfl⟩
 ·rw [decide_eq_false h]
  by_cases h1:1≤n
  ·have h4:¬ n≤4:=fun h4=>h ⟨h1,h4⟩
   clear h
   go_enter Tryz.func77,Tryz.ntmps77
   go_wp2
   go_ret
   exact ⟨rfl,rfl⟩
  ·clear h
   go_enter Tryz.func77,Tryz.ntmps77
   go_wp2
   go_ret
   exact ⟨rfl,rfl⟩
def frLetters:List UInt8:=[97,98,99,100,101,102,103,104,105,107,108,109,110,111,112,113,114,115,116]
theorem frenchFret_any (f:Int) (w:World) (h0:0≤f) (h1:f≤18) :
  Calls Tryz.prog 229 #[.int .i64 f] w fun e w'=>e=.returned (.string (bs (cut frLetters f (f+1))))∧w'=w:=by
 have g1:f≤f+1:=by omega
 have g2:f+1≤19:=by omega
 have g3:0≤f+1:=by omega
 unfold frLetters
 go_enter Tryz.func229,Tryz.ntmps229
 go_wp2
 go_ret
 exact ⟨rfl,rfl⟩
def figLetters:List UInt8:=[48,49,50,51,52,53,54,55,56,57,120]
theorem rfigure_any (f:Int) (w:World) (h0:0≤f) (h1:f≤10) :
  Calls Tryz.prog 230 #[.int .i64 f] w fun e w'=>e=.returned (.string (bs (cut figLetters f (f+1))))∧w'=w:=by
 have g1:f≤f+1:=by omega
 have g2:f+1≤11:=by omega
 have g3:0≤f+1:=by omega
 unfold figLetters
 go_enter Tryz.func230,Tryz.ntmps230
 go_wp2
 go_ret
 exact ⟨rfl,rfl⟩
def rsmall:List UInt8:=[97,98,99,100,101,102,103,104,105,107,108,109,110,111,112,113,114,115,116,118,120,121,122,38,57]
def rge (c f:Int):List UInt8 :=
 if c=6 then cut [43,65,66,67,68,69,70,71,72,73,75] f (f+1)
 else if f=0 then cut [49,50,51,52,53] (5-c) (6-c)
 else if 5<f then cut rsmall (5*((f-1) % 5)+5-c) (5*((f-1) % 5)+6-c)++cut rsmall (5*((f-1) % 5)+5-c) (5*((f-1) % 5)+6-c)
 else cut rsmall (5*((f-1) % 5)+5-c) (5*((f-1) % 5)+6-c)
theorem rgerman_any (c f:Int) (w:World) (hc:1≤c∧c≤6) (hf:0≤f∧f≤10) :
  Calls Tryz.prog 231 #[.int .i64 c,.int .i64 f] w fun e w'=>e=.returned (.string (bs (rge c f)))∧w'=w:=by
 obtain ⟨hc0,hc1⟩:=hc
 obtain ⟨hf0,hf1⟩:=hf
 have g1:f≤f+1:=by omega
 have g2:f+1≤11:=by omega
 have g3:0≤f+1:=by omega
 by_cases h6:c=6
 ·subst h6
  go_enter Tryz.func231,Tryz.ntmps231
  go_wp2
  go_ret
  exact ⟨rfl,rfl⟩
 ·have hb1:(c == 6)=false:=by simp;exact h6
  by_cases h0:f=0
  ·subst h0
   have k1:0≤5-c:=by omega
   have k1':c≤5:=by omega
   have k2:5-c≤6-c:=by omega
   have k3:6-c≤5:=by omega
   have e1:rge c 0=cut [49,50,51,52,53] (5-c) (6-c):=by unfold rge;rw [if_neg h6,if_pos rfl]
   rw [e1]
   go_enter Tryz.func231,Tryz.ntmps231
   go_wp2
   go_ret
   exact ⟨rfl,rfl⟩
  ·have hb2:(f == 0)=false:=by simp;exact h0
   have k0:0≤5*((f-1) % 5)+5-c:=by omega
   have k0':c≤5*((f-1) % 5)+5:=by omega
   have k1:5*((f-1) % 5)+5-c≤5*((f-1) % 5)+6-c:=by omega
   have k2:5*((f-1) % 5)+6-c≤25:=by omega
   have kl:=cut_length [97,98,99,100,101,102,103,104,105,107,108,109,110,111,112,113,114,115,116,118,120,121,122,38,57] (5*((f-1) % 5)+5-c) (5*((f-1) % 5)+6-c)
   have kl':(cut [97,98,99,100,101,102,103,104,105,107,108,109,110,111,112,113,114,115,116,118,120,121,122,38,57] (5*((f-1) % 5)+5-c) (5*((f-1) % 5)+6-c)).length+(cut [97,98,99,100,101,102,103,104,105,107,108,109,110,111,112,113,114,115,116,118,120,121,122,38,57] (5*((f-1) % 5)+5-c) (5*((f-1) % 5)+6-c)).length≤9223372036854775807:=by
    have:([97,98,99,100,101,102,103,104,105,107,108,109,110,111,112,113,114,115,116,118,120,121,122,38,57]:List UInt8).length=25:=rfl
    omega
   clear kl
   by_cases h5:5<f
   ·have e1:rge c f=cut rsmall (5*((f-1) % 5)+5-c) (5*((f-1) % 5)+6-c)++cut rsmall (5*((f-1) % 5)+5-c) (5*((f-1) % 5)+6-c):=by unfold rge;rw [if_neg h6,if_neg h0,if_pos h5]
    rw [e1]
    unfold rsmall
    go_enter Tryz.func231,Tryz.ntmps231
    go_wp2
    go_ret
    exact ⟨rfl,rfl⟩
   ·have e1:rge c f=cut rsmall (5*((f-1) % 5)+5-c) (5*((f-1) % 5)+6-c):=by unfold rge;rw [if_neg h6,if_neg h0,if_neg h5]
    rw [e1]
    unfold rsmall
    go_enter Tryz.func231,Tryz.ntmps231
    go_wp2
    go_ret
    exact ⟨rfl,rfl⟩
def itOuter (c:Int):List UInt8:=[[55],[56],[57],[120],[49,49],[49,50],[49,51],[49,52]].getD (c-7).toNat []
def rS (s c f:Int):List UInt8 :=
 if s=1 then
  (if c≤7 then cut frLetters f (f+1) else if c≤10 then cut [47,47,47] 0 (c-7)++cut frLetters f (f+1) else if f=0 then cut [52,53,54,55] (c-11) (c-10) else [])
 else if s=4 then (if c≤6∧f≤10 then rge c f else [])
 else if c≤6∧f≤10 then cut figLetters f (f+1) else if s=2∧6<c∧f=0 then itOuter c else []
set_option maxHeartbeats 800000
theorem rsymbol_1 (c f:Int) (w:World) (hc:1≤c∧c≤14) (hf:0≤f∧f≤18) :
  Calls Tryz.prog 203 #[.int .u8 1,.int .i64 c,.int .i64 f] w (Ret (.string (bs (rS 1 c f))) w):=by
 obtain ⟨hc0,hc1⟩:=hc
 obtain ⟨hf0,hf1⟩:=hf
 by_cases h7:c≤7
 ·have e1:rS 1 c f=cut frLetters f (f+1):=by unfold rS;rw [if_pos rfl,if_pos h7]
  rw [e1]
  go_enter Tryz.func203,Tryz.ntmps203
  go_wp2_with (go_at_call 229;refine (frenchFret_any _ _ hf0 hf1).mono ?_;rintro e w' ⟨rfl,rfl⟩)
  go_ret
  exact Ret.mk' rfl (by repeat (first|exact Below.refl _ _|assumption|refine bel_drewN ?_ _|refine Below.drew ?_|refine bel_alloc ?_ _|refine Below.setCell ?_ (by first|omega|(simp;done)|(simp;omega)) _|refine bel_step ?_ (by assumption)))
 ·by_cases h10:c≤10
  ·have e1:rS 1 c f=cut [47,47,47] 0 (c - 7)++cut frLetters f (f+1):=by unfold rS;rw [if_pos rfl,if_neg h7,if_pos h10]
   rw [e1]
   have g0:0≤c - 7:=by omega
   have g0':7≤c:=by omega
   have g1:c - 7≤3:=by omega
   have gl:(cut [47,47,47] 0 (c - 7)).length+(cut frLetters f (f+1)).length≤9223372036854775807:=by
    have a:=cut_length [47,47,47] 0 (c - 7)
    have b:=cut_length frLetters f (f+1)
    have a':([47,47,47]:List UInt8).length=3:=rfl
    have b':frLetters.length=19:=rfl
    omega
   have w1:IntKind.i64.wrap (c - 7)=c - 7:=IntWalk.i64_in _ (by omega)
   go_enter Tryz.func203,Tryz.ntmps203
   go_wp2_with fail
   go_quiet ((go_at_call 229;exact Calls.quiet_of_same (frenchFret_any _ _ hf0 hf1)))
   go_wp2_with fail
   go_ret
   exact Ret.mk' rfl (by repeat (first|exact Below.refl _ _|assumption|refine bel_drewN ?_ _|refine Below.drew ?_|refine bel_alloc ?_ _|refine Below.setCell ?_ (by first|omega|(simp;done)|(simp;omega)) _|refine bel_step ?_ (by assumption)))
  ·by_cases h0:f=0
   ·subst h0
    have e1:rS 1 c 0=cut [52,53,54,55] (c - 11) (c - 10):=by unfold rS;rw [if_pos rfl,if_neg h7,if_neg h10,if_pos rfl]
    have g0:0≤c - 11:=by omega
    have g0':11≤c:=by omega
    have g1:c - 11≤c - 10:=by omega
    have g2:c - 10≤4:=by omega
    rw [e1]
    go_enter Tryz.func203,Tryz.ntmps203
    go_wp2_with fail
    go_ret
    exact Ret.mk' rfl (by repeat (first|exact Below.refl _ _|assumption|refine bel_drewN ?_ _|refine Below.drew ?_|refine bel_alloc ?_ _|refine Below.setCell ?_ (by first|omega|(simp;done)|(simp;omega)) _|refine bel_step ?_ (by assumption)))
   ·have e1:rS 1 c f=[]:=by unfold rS;rw [if_pos rfl,if_neg h7,if_neg h10,if_neg h0]
    have hb:(f == 0)=false:=by simp;exact h0
    rw [e1]
    go_enter Tryz.func203,Tryz.ntmps203
    go_wp2_with fail
    go_ret
    exact Ret.mk' rfl (by repeat (first|exact Below.refl _ _|assumption|refine bel_drewN ?_ _|refine Below.drew ?_|refine bel_alloc ?_ _|refine Below.setCell ?_ (by first|omega|(simp;done)|(simp;omega)) _|refine bel_step ?_ (by assumption)))
theorem rsymbol_4 (c f:Int) (w:World) (hc:1≤c∧c≤14) (hf:0≤f∧f≤18) :
  Calls Tryz.prog 203 #[.int .u8 4,.int .i64 c,.int .i64 f] w (Ret (.string (bs (rS 4 c f))) w):=by
 obtain ⟨hc0,hc1⟩:=hc
 obtain ⟨hf0,hf1⟩:=hf
 by_cases h6:c≤6
 ·by_cases h10:f≤10
  ·have e1:rS 4 c f=rge c f:=by unfold rS;rw [if_neg (by decide),if_pos rfl,if_pos ⟨h6,h10⟩]
   rw [e1]
   go_enter Tryz.func203,Tryz.ntmps203
   go_wp2_with (go_at_call 231;refine (rgerman_any _ _ _ ⟨hc0,h6⟩ ⟨hf0,h10⟩).mono ?_;rintro e w' ⟨rfl,rfl⟩)
   go_ret
   exact Ret.mk' rfl (by repeat (first|exact Below.refl _ _|assumption|refine bel_drewN ?_ _|refine Below.drew ?_|refine bel_alloc ?_ _|refine Below.setCell ?_ (by first|omega|(simp;done)|(simp;omega)) _|refine bel_step ?_ (by assumption)))
  ·have e1:rS 4 c f=[]:=by unfold rS;rw [if_neg (by decide),if_pos rfl,if_neg (fun h=>h10 h.2)]
   rw [e1]
   go_enter Tryz.func203,Tryz.ntmps203
   go_wp2_with fail
   go_ret
   exact Ret.mk' rfl (by repeat (first|exact Below.refl _ _|assumption|refine bel_drewN ?_ _|refine Below.drew ?_|refine bel_alloc ?_ _|refine Below.setCell ?_ (by first|omega|(simp;done)|(simp;omega)) _|refine bel_step ?_ (by assumption)))
 ·have e1:rS 4 c f=[]:=by unfold rS;rw [if_neg (by decide),if_pos rfl,if_neg (fun h=>h6 h.1)]
  rw [e1]
  go_enter Tryz.func203,Tryz.ntmps203
  go_wp2_with fail
  go_ret
  exact Ret.mk' rfl (by repeat (first|exact Below.refl _ _|assumption|refine bel_drewN ?_ _|refine Below.drew ?_|refine bel_alloc ?_ _|refine Below.setCell ?_ (by first|omega|(simp;done)|(simp;omega)) _|refine bel_step ?_ (by assumption)))
theorem rsymbol_fig (s c f:Int) (w:World) (hs:s=2∨s=3) (hc:1≤c∧c≤14) (hf:0≤f∧f≤18) (h6:c≤6) (h10:f≤10) :
  Calls Tryz.prog 203 #[.int .u8 s,.int .i64 c,.int .i64 f] w (Ret (.string (bs (rS s c f))) w):=by
 obtain ⟨hc0,hc1⟩:=hc
 obtain ⟨hf0,hf1⟩:=hf
 have e1:rS s c f=cut figLetters f (f+1):=by unfold rS;rw [if_neg (by omega),if_neg (by omega),if_pos ⟨h6,h10⟩]
 rw [e1]
 rcases hs with rfl|rfl
 all_goals
  clear e1
  go_enter Tryz.func203,Tryz.ntmps203
  go_wp2_with (go_at_call 230;refine (rfigure_any _ _ hf0 h10).mono ?_;rintro e w' ⟨rfl,rfl⟩)
  go_ret
  exact Ret.mk' rfl (by repeat (first|exact Below.refl _ _|assumption|refine bel_drewN ?_ _|refine Below.drew ?_|refine bel_alloc ?_ _|refine Below.setCell ?_ (by first|omega|(simp;done)|(simp;omega)) _|refine bel_step ?_ (by assumption)))
theorem rsymbol_3n (c f:Int) (w:World) (h:¬ (c≤6∧f≤10)) :
  Calls Tryz.prog 203 #[.int .u8 3,.int .i64 c,.int .i64 f] w (Ret (.string (bs (rS 3 c f))) w):=by
 have e1:rS 3 c f=[]:=by unfold rS;rw [if_neg (by decide),if_neg (by decide),if_neg h,if_neg (by simp)]
 rw [e1]
 by_cases h6:c≤6
 ·have h10:¬ f≤10:=fun k=>h ⟨h6,k⟩
  clear h
  go_enter Tryz.func203,Tryz.ntmps203
  go_wp2_with fail
  go_ret
  exact Ret.mk' rfl (by repeat (first|exact Below.refl _ _|assumption|refine bel_drewN ?_ _|refine Below.drew ?_|refine bel_alloc ?_ _|refine Below.setCell ?_ (by first|omega|(simp;done)|(simp;omega)) _|refine bel_step ?_ (by assumption)))
 ·clear h
  go_enter Tryz.func203,Tryz.ntmps203
  go_wp2_with fail
  go_ret
  exact Ret.mk' rfl (by repeat (first|exact Below.refl _ _|assumption|refine bel_drewN ?_ _|refine Below.drew ?_|refine bel_alloc ?_ _|refine Below.setCell ?_ (by first|omega|(simp;done)|(simp;omega)) _|refine bel_step ?_ (by assumption)))
theorem rsymbol_2n (c f:Int) (w:World) (hc:1≤c∧c≤14) (h:¬ (c≤6∧f≤10)) :
  Calls Tryz.prog 203 #[.int .u8 2,.int .i64 c,.int .i64 f] w (Ret (.string (bs (rS 2 c f))) w):=by
 obtain ⟨hc0,hc1⟩:=hc
 by_cases h6:c≤6
 ·have e1:rS 2 c f=[]:=by unfold rS;rw [if_neg (by decide),if_neg (by decide),if_neg h,if_neg (by omega)]
  have h10:¬ f≤10:=fun k=>h ⟨h6,k⟩
  rw [e1]
  clear h
  go_enter Tryz.func203,Tryz.ntmps203
  go_wp2_with fail
  go_ret
  exact Ret.mk' rfl (by repeat (first|exact Below.refl _ _|assumption|refine bel_drewN ?_ _|refine Below.drew ?_|refine bel_alloc ?_ _|refine Below.setCell ?_ (by first|omega|(simp;done)|(simp;omega)) _|refine bel_step ?_ (by assumption)))
 ·clear h
  have h6':6 < c:=by omega
  by_cases h0:f=0
  ·subst h0
   have e1:rS 2 c 0=itOuter c:=by unfold rS;rw [if_neg (by decide),if_neg (by decide),if_neg (by omega),if_pos (by omega)]
   rw [e1]
   have:c=7∨c=8∨c=9∨c=10∨c=11∨c=12∨c=13∨c=14:=by omega
   rcases this with rfl|rfl|rfl|rfl|rfl|rfl|rfl|rfl
   all_goals
    clear e1
    go_enter Tryz.func203,Tryz.ntmps203
    go_wp2_with fail
    go_ret
    exact Ret.mk' rfl (by repeat (first|exact Below.refl _ _|assumption|refine bel_drewN ?_ _|refine Below.drew ?_|refine bel_alloc ?_ _|refine Below.setCell ?_ (by first|omega|(simp;done)|(simp;omega)) _|refine bel_step ?_ (by assumption)))
  ·have e1:rS 2 c f=[]:=by unfold rS;rw [if_neg (by decide),if_neg (by decide),if_neg (by omega),if_neg (by omega)]
   have hb:(f == 0)=false:=by simp;exact h0
   rw [e1]
   go_enter Tryz.func203,Tryz.ntmps203
   go_wp2_with fail
   go_ret
   exact Ret.mk' rfl (by repeat (first|exact Below.refl _ _|assumption|refine bel_drewN ?_ _|refine Below.drew ?_|refine bel_alloc ?_ _|refine Below.setCell ?_ (by first|omega|(simp;done)|(simp;omega)) _|refine bel_step ?_ (by assumption)))
theorem rsymbol_any (s c f:Int) (w:World) (hs:1≤s∧s≤4) (hc:1≤c∧c≤14) (hf:0≤f∧f≤18) :
  Calls Tryz.prog 203 #[.int .u8 s,.int .i64 c,.int .i64 f] w (Ret (.string (bs (rS s c f))) w):=by
 have:s=1∨s=2∨s=3∨s=4:=by omega
 rcases this with rfl|rfl|rfl|rfl
 ·exact rsymbol_1 c f w hc hf
 ·by_cases h:c≤6∧f≤10
  ·exact rsymbol_fig 2 c f w (.inl rfl) hc hf h.1 h.2
  ·exact rsymbol_2n c f w hc h
 ·by_cases h:c≤6∧f≤10
  ·exact rsymbol_fig 3 c f w (.inr rfl) hc hf h.1 h.2
  ·exact rsymbol_3n c f w h
 ·exact rsymbol_4 c f w hc hf
end Go.Proofs.YtkgnmddakiagbaaGreatDoor
namespace Go.Proofs.YtkgnmddakiagbaaGreatDoor
open Go.RowKit
set_option maxHeartbeats 1600000
set_option maxRecDepth 100000
theorem highest_any (A1 A2:Option Addr) (cs:List (Int×Int×Bool)) (st:List Int) (n1 n2 c1 c2 B:Nat) (p f:Int) (o:Bool) (w:World) (hI:InsAt w B A1 A2 cs st) (hB:B≤w.heap.size)
  (hn2:n2=st.length) (hp:0≤p∧p≤127) (hf:0≤f∧f≤st.length) (hl:st.length≤18) (hst:∀ k (h:k < st.length),1≤st[k]∧st[k]≤127) :
  Calls Tryz.prog 173 #[.agg #[.slice A1 n1 c1,.slice A2 n2 c2],.agg #[.int .i64 p,.int .i64 f,.bool o]] w (Ret (.int .i64 (topOf st (p,f,o))) w):=by
 by_cases hz:0 < f
 ·obtain ⟨k,rfl⟩:∃ k:Nat,f=(k:Int)+1:=⟨f.toNat - 1,by omega⟩
  have hk:k < st.length:=by omega
  obtain ⟨ad,rfl,hb,hc⟩:=hI.step hk
  have hbd:=hst k hk
  obtain ⟨x,hx⟩:∃ x,st[k]=x:=⟨_,rfl⟩
  rw [hx] at hc hbd
  have hc2:∀ o o':Obj,((w.alloc o).alloc o').cell? (ad.add k)=some (.int .i64 x):=fun o o'=>by
   rw [World.cell?_alloc_lt _ _ _ (by rw [block_of_add];simp;omega),World.cell?_alloc_lt _ _ _ (by rw [block_of_add];omega),hc]
  clear hc
  have e:topOf st (p,(k:Int)+1,o)=p+x+if o then 12 else 0:=by
   unfold topOf
   simp only [if_pos hz]
   have:((k:Int)+1).toNat - 1=k:=by omega
   rw [this,List.getD_eq_getElem?_getD,List.getElem?_eq_getElem hk,hx];rfl
  rw [e]
  have hk2:k < n2:=by omega
  clear e hx hst hI hn2 hf
  cases o
  all_goals
   go_enter Tryz.func173,Tryz.ntmps173
   go_wp2
   go_ret
   exact Ret.mk' (by simp) (by repeat (first|exact Below.refl _ _|assumption|refine bel_drewN ?_ _|refine Below.drew ?_|refine bel_alloc ?_ _|refine Below.setCell ?_ (by first|omega|(simp;done)|(simp;omega)) _|refine bel_step ?_ (by assumption)))
 ·obtain rfl:f=0:=by omega
  have e:topOf st (p,0,o)=p+if o then 12 else 0:=by unfold topOf;simp
  rw [e]
  clear e hst hI hn2 hf
  cases o
  all_goals
   go_enter Tryz.func173,Tryz.ntmps173
   go_wp2
   go_ret
   exact Ret.mk' (by simp) (by repeat (first|exact Below.refl _ _|assumption|refine bel_drewN ?_ _|refine Below.drew ?_|refine bel_alloc ?_ _|refine Below.setCell ?_ (by first|omega|(simp;done)|(simp;omega)) _|refine bel_step ?_ (by assumption)))
theorem insE_many {cs:List (Int×Int×Bool)} {st:List Int} (h:14<cs.length∨18<st.length):insE cs st=2:=if_pos h
theorem insE_none {cs:List (Int×Int×Bool)} {st:List Int} (h:¬ (14<cs.length∨18<st.length)) (h1:cs.length=0):insE cs st=11:=by unfold insE;rw [if_neg h,if_pos h1]
theorem insE_steps {cs:List (Int×Int×Bool)} {st:List Int} (h:¬ (14<cs.length∨18<st.length)) (h1:stepsBad 0 st=true):insE cs st=11:=by unfold insE;rw [if_neg h,h1];simp
theorem insE_crs {cs:List (Int×Int×Bool)} {st:List Int} (h:¬ (14<cs.length∨18<st.length)) (h1:¬ cs.length=0) (h2:stepsBad 0 st=false):insE cs st=crsE st cs:=by unfold insE;rw [if_neg h,if_neg h1,h2];simp
theorem insCheck (A1 A2:Option Addr) (cs:List (Int×Int×Bool)) (st:List Int) (n1 n2 c1 c2:Nat) (w:World) (hI:InsAt w w.heap.size A1 A2 cs st) (hn1:n1=cs.length) (hn2:n2=st.length) :
  Calls Tryz.prog 116 #[.agg #[.slice A1 n1 c1,.slice A2 n2 c2]] w (Ret (.int .i64 (insE cs st)) w):=by
 by_cases hm1:14 < n1
 ·rw [insE_many (.inl (by omega))]
  clear hn1 hn2 hI
  go_enter Tryz.func116,Tryz.ntmps116
  go_wp2
  go_ret
  exact Ret.mk' rfl (by repeat (first|exact Below.refl _ _|assumption|refine bel_drewN ?_ _|refine Below.drew ?_|refine bel_alloc ?_ _|refine Below.setCell ?_ (by first|omega|(simp;done)|(simp;omega)) _|refine bel_step ?_ (by assumption)))
 ·by_cases hm2:18 < n2
  ·rw [insE_many (.inr (by omega))]
   clear hn1 hn2 hI
   go_enter Tryz.func116,Tryz.ntmps116
   go_wp2
   go_ret
   exact Ret.mk' rfl (by repeat (first|exact Below.refl _ _|assumption|refine bel_drewN ?_ _|refine Below.drew ?_|refine bel_alloc ?_ _|refine Below.setCell ?_ (by first|omega|(simp;done)|(simp;omega)) _|refine bel_step ?_ (by assumption)))
  ·by_cases hz:n1=0
   ·rw [insE_none (by omega) (by omega)]
    subst hz
    clear hn1 hn2 hI
    go_enter Tryz.func116,Tryz.ntmps116
    go_wp2
    go_ret
    exact Ret.mk' rfl (by repeat (first|exact Below.refl _ _|assumption|refine bel_drewN ?_ _|refine Below.drew ?_|refine bel_alloc ?_ _|refine Below.setCell ?_ (by first|omega|(simp;done)|(simp;omega)) _|refine bel_step ?_ (by assumption)))
   ·have hnz:0 < n1:=by omega
    have HI:=Lib.hid hI
    have HN1:=Lib.hid hn1
    have HN2:=Lib.hid hn2
    have HE1:=Lib.hid (fun h=>insE_steps (cs:=cs) (st:=st) (by omega) h)
    have HE2:=Lib.hid (fun h=>insE_crs (cs:=cs) (st:=st) (by omega) (by omega) h)
    have h18:st.length≤18:=by omega
    have hi1:n2≤18:=by omega
    have hi2:n1≤14:=by omega
    clear hI hn1 hn2 hz hm1 hm2
    go_enter Tryz.func116,Tryz.ntmps116
    go_wp2
    go_loop [3,25] (fun last i=>∃ (k:Nat) (x:Int),k≤n2∧i=.int .i64 k∧last=.int .i64 x∧stepsBad 0 st=stepsBad x (st.drop k)) (fun _ i=>n2 - (intOf i).toNat)
    case atStart=>exact ⟨0,0,Nat.zero_le _,rfl,rfl,rfl⟩
    case round =>
     obtain ⟨k,x,hk,rfl,rfl,hs⟩:=hrel
     have HS:=Lib.hid hs
     clear hs
     by_cases hlt:k < n2
     ·have hk2:k < st.length:=by have:=HN2.out;omega
      obtain ⟨ad,hA,hb,hc⟩:=HI.out.step hk2
      subst hA
      have hs2:=HS.out.trans (stepsBad_at hk2)
      obtain ⟨y,hy⟩:∃ y,st[k]=y:=⟨_,rfl⟩
      rw [hy] at hc hs2
      have hc2:∀ o:Obj,(w.alloc o).cell? (ad.add k)=some (.int .i64 y):=fun o=>by
       rw [World.cell?_alloc_lt _ _ _ (by rw [block_of_add];omega),hc]
      clear hc hy
      by_cases hb1:y≤x
      ·have HE:=Lib.hid (HE1.out (hs2.trans (by simp [hb1])))
       clear hs2
       go_wp2
       go_ret
       exact Ret.mk' (by rw [HE.out];rfl) (by repeat (first|exact Below.refl _ _|assumption|refine bel_drewN ?_ _|refine Below.drew ?_|refine bel_alloc ?_ _|refine Below.setCell ?_ (by first|omega|(simp;done)|(simp;omega)) _|refine bel_step ?_ (by assumption)))
      ·by_cases hb2:127 < y
       ·have HE:=Lib.hid (HE1.out (hs2.trans (by simp [hb2])))
        clear hs2
        go_wp2
        go_ret
        exact Ret.mk' (by rw [HE.out];rfl) (by repeat (first|exact Below.refl _ _|assumption|refine bel_drewN ?_ _|refine Below.drew ?_|refine bel_alloc ?_ _|refine Below.setCell ?_ (by first|omega|(simp;done)|(simp;omega)) _|refine bel_step ?_ (by assumption)))
       ·have HS3:=Lib.hid (hs2.trans (show _=stepsBad y (st.drop (k+1)) by simp [hb1,hb2]))
        clear hs2
        go_wp2
        go_round
        case rel=>exact ⟨k+1,y,by omega,by go_num,rfl,HS3.out⟩
        case measure=>simp [intOf];omega
     ·have hsF:stepsBad 0 st=false:=by
       have h:=HS.out
       rw [h,List.drop_eq_nil_of_le (by have:=HN2.out;omega)];rfl
      have HE:=Lib.hid (HE2.out hsF)
      have HBD:=Lib.hid (stepsBad_bd (by omega) hsF)
      clear hsF
      go_wp2
      go_loopw [41] (fun i wr=>∃ k:Nat,k≤n1∧i=.int .i64 k∧crsE st cs=crsE st (cs.drop k)∧Below w.heap.size w wr∧Blk wr w.heap.size 26 #[.slice A1 n1 c1,.slice A2 n2 c2]) (fun i _=>n1 - (intOf i).toNat)
      case atStart=>exact ⟨0,Nat.zero_le _,rfl,rfl,(by repeat (first|exact Below.refl _ _|assumption|refine bel_drewN ?_ _|refine Below.drew ?_|refine bel_alloc ?_ _|refine Below.setCell ?_ (by first|omega|(simp;done)|(simp;omega)) _|refine bel_step ?_ (by assumption))),Blk.new _ _ _⟩
      case round =>
       obtain ⟨j,hj,rfl,hs,hbel,hblk⟩:=hrel
       have HC:=Lib.hid hs
       have HB:=Lib.hid hblk
       have hlt3:w.heap.size < wr.heap.size:=hblk.lt
       have q0:wr.cell? ⟨w.heap.size,0,none⟩=some (.slice A1 n1 c1):=hblk.cell 0
       have q1:wr.cell? ⟨w.heap.size,1,none⟩=some (.slice A2 n2 c2):=hblk.cell 1
       clear hs hblk
       by_cases hlt2:j < n1
       ·have hj2:j < cs.length:=by have:=HN1.out;omega
        have HI2:=Lib.hid (HI.out.below hbel)
        obtain ⟨ad,hA,hb,hc0,hc1,hc2⟩:=HI2.out.crs hj2
        subst hA
        have hs2:=HC.out.trans (crsE_at hj2)
        obtain ⟨⟨p,f,o⟩,hx⟩:∃ x,cs[j]=x:=⟨_,rfl⟩
        rw [hx] at hc0 hc1 hc2 hs2
        simp only at hc0 hc1 hc2 hs2
        have HI3:=Lib.hid (fun o=>HI2.out.alloc (hbel.size) o)
        have hbel4:∀ o:Obj,Below w.heap.size w (wr.alloc o):=fun o=>hbel.alloc hbel.size o
        have HB4:=Lib.hid (fun o=>HB.out.alloc o)
        have hn3:(st.length:Int)=n2:=by have:=HN2.out;omega
        by_cases b1:f < 0
        ·have HE3:=Lib.hid (HE.out.trans (hs2.trans (if_pos (.inl b1))))
         clear hs2
         go_wp2
         go_ret
         exact Ret.mk' (by rw [HE3.out];rfl) (by repeat (first|exact Below.refl _ _|assumption|refine bel_drewN ?_ _|refine Below.drew ?_|refine bel_alloc ?_ _|refine Below.setCell ?_ (by first|omega|(simp;done)|(simp;omega)) _|refine bel_step ?_ (by assumption)))
        ·by_cases b2:(n2:Int) < f
         ·have HE3:=Lib.hid (HE.out.trans (hs2.trans (if_pos (.inr (by omega)))))
          clear hs2 hn3
          go_wp2
          go_ret
          exact Ret.mk' (by rw [HE3.out];rfl) (by repeat (first|exact Below.refl _ _|assumption|refine bel_drewN ?_ _|refine Below.drew ?_|refine bel_alloc ?_ _|refine Below.setCell ?_ (by first|omega|(simp;done)|(simp;omega)) _|refine bel_step ?_ (by assumption)))
         ·rw [if_neg (by omega)] at hs2
          by_cases b3:p < 0
          ·have HE3:=Lib.hid (HE.out.trans (hs2.trans (if_pos (.inl (.inl b3)))))
           clear hs2 hn3
           go_wp2
           go_ret
           exact Ret.mk' (by rw [HE3.out];rfl) (by repeat (first|exact Below.refl _ _|assumption|refine bel_drewN ?_ _|refine Below.drew ?_|refine bel_alloc ?_ _|refine Below.setCell ?_ (by first|omega|(simp;done)|(simp;omega)) _|refine bel_step ?_ (by assumption)))
          ·by_cases b4:127 < p
           ·have HE3:=Lib.hid (HE.out.trans (hs2.trans (if_pos (.inl (.inr b4)))))
            clear hs2 hn3
            go_wp2
            go_ret
            exact Ret.mk' (by rw [HE3.out];rfl) (by repeat (first|exact Below.refl _ _|assumption|refine bel_drewN ?_ _|refine Below.drew ?_|refine bel_alloc ?_ _|refine Below.setCell ?_ (by first|omega|(simp;done)|(simp;omega)) _|refine bel_step ?_ (by assumption)))
           ·have HT:=fun (w':World) (hI:InsAt w' w.heap.size (some ad) A2 cs st) (hB:w.heap.size≤w'.heap.size)=>highest_any (some ad) A2 cs st n1 n2 c1 c2 w.heap.size p f o w' hI hB HN2.out (by omega) (by omega) h18 HBD.out
            have hsz:=hbel.size
            by_cases b5:127 < topOf st (p,f,o)
            ·have HE3:=Lib.hid (HE.out.trans (hs2.trans (if_pos (.inr b5))))
             clear hs2 hn3
             generalize topOf st (p,f,o)=T at *
             have HTT:=Lib.hid HT
             clear HT
             go_wp2_with (go_at_call 173;refine (HTT.out _ (HI3.out _) (by simp;omega)).mono ?_;rintro e w2 ⟨rfl,hb2⟩)
             go_ret
             exact Ret.mk' (by rw [HE3.out];rfl) (by repeat (first|exact Below.refl _ _|assumption|refine bel_drewN ?_ _|refine Below.drew ?_|refine bel_alloc ?_ _|refine Below.setCell ?_ (by first|omega|(simp;done)|(simp;omega)) _|refine bel_step ?_ (by assumption)))
            ·rw [if_neg (by omega)] at hs2
             have HS4:=Lib.hid hs2
             clear hs2 hn3
             generalize topOf st (p,f,o)=T at *
             have HTT:=Lib.hid HT
             clear HT
             go_wp2_with (go_at_call 173;refine (HTT.out _ (HI3.out _) (by simp;omega)).mono ?_;rintro e w2 ⟨rfl,hb2⟩;have K1:=Lib.hid ((HB4.out _).after hb2))
             go_roundw
             case rel=>exact ⟨j+1,by omega,by go_num,HS4.out,(by repeat (first|exact Below.refl _ _|assumption|refine bel_drewN ?_ _|refine Below.drew ?_|refine bel_alloc ?_ _|refine Below.setCell ?_ (by first|omega|(simp;done)|(simp;omega)) _|refine bel_step ?_ (by assumption))),K1.out⟩
             case measure=>simp [intOf];omega
       ·have HE3:=Lib.hid (HE.out.trans (HC.out.trans (show crsE st (cs.drop j)=0 from by rw [List.drop_eq_nil_of_le (by have:=HN1.out;omega)];rfl)))
        go_wp2
        go_ret
        exact Ret.mk' (by rw [HE3.out];rfl) (by repeat (first|exact Below.refl _ _|assumption|refine bel_drewN ?_ _|refine Below.drew ?_|refine bel_alloc ?_ _|refine Below.setCell ?_ (by first|omega|(simp;done)|(simp;omega)) _|refine bel_step ?_ (by assumption)))
end Go.Proofs.YtkgnmddakiagbaaGreatDoor
