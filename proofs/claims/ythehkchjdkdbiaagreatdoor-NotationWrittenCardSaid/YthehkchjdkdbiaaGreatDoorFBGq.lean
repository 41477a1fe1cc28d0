/- Regions that draw their order, with a tail whose order is fixed; regions in the round of a range over a function. -/
import Derived.Test.YthehkchjdkdbiaaGreatDoorProg
import Derived.Test.YthehkchjdkdbiaaGreatDoorE7Gq
set_option maxRecDepth 100000
set_option linter.unusedVariables false
set_option linter.unusedSimpArgs false
namespace Go.Proofs.YthehkchjdkdbiaaGreatDoor
section
open Go.RowKit Go.WideShapes Go.ChangeShapes Go.Joins Go.Deep
section
variable {H:Type} {enc:TypeId×Value→H} {P:Program} {w w':World} {base:Nat} {spare:Nat→Bool} {held:Bool}
theorem trodAll_carry:∀ {ts:List TypeId} {vs:List Value} {ds:List (DataW H)} {ps:List MemPlace},DataW.TrodAll enc P w base spare held ts vs ds ps→(∀ p∈ps,w.sameAt w' p)→DataW.TrodAll enc P w' base spare held ts vs ds ps
 | [],[],[],_,h,_=>h
 | _::_,_::_,_::_,_,⟨p,q,⟨n,h1⟩,h2,e⟩,hs=>⟨p,q,⟨n,DataW.trod_carry n _ _ _ h1 (fun x hx=>hs x (by rw [e];exact List.mem_append_left _ hx))⟩,trodAll_carry h2 (fun x hx=>hs x (by rw [e];exact List.mem_append_right _ hx)),e⟩
theorem args_keep {W W':World} {T:TypeId→Prop} {sp:Nat→Bool} (K:Kids P T)(hz:∀ t e,T t→P.underlying t=some (.slice e)→0<P.cellsOf e) {ts:List TypeId} {vs:List Value} {ds:List (DataW H)} {ps:List MemPlace} (hT:∀ t∈ts,T t)
  (h:DataW.TrodAll enc P W 0 (fun _=>true) true ts vs ds ps)(hb:Below W.heap.size W W')(hlt:∀ p∈ps,p.block<W.heap.size)(hs:∀ p∈ps,sp p.block=true):DataW.TrodAll enc P W' 0 sp true ts vs ds ps :=
 DataW.TrodAll.respare K hz hT (trodAll_carry h fun p hp=>hb.same (hlt p hp)) hs
end
theorem typesKids:Kids Tryz.prog (·<Tryz.prog.types.size):=kids_rows (by kernel_rfl) (by kernel_rfl)
theorem slicesFull:∀ t e,t<Tryz.prog.types.size→Tryz.prog.underlying t=some (.slice e)→0<Tryz.prog.cellsOf e:=slices_full_of Tryz.prog (by kernel_rfl)
end
section
open Go.RowKit
def rem {α:Type} (k:Nat):List (Nat×α)→List (Nat×α)
 | []=>[]
 | x::r=>bif Nat.beq k x.1 then rem k r else x::rem k r
theorem look_rem {α:Type} (k i:Nat):∀ (l:List (Nat×α)),look i (rem k l)=if i=k then none else look i l
 | []=>by simp [rem,look]
 | x::r=>by
  have ih:=look_rem k i r
  by_cases e:k=x.1
  ·have hb:Nat.beq k x.1=true:=by rw [e];simp
   simp only [rem,hb,cond_true,ih]
   by_cases e2:i=k
   ·rw [if_pos e2,if_pos e2]
   ·rw [if_neg e2,if_neg e2,look_set_other (fun h=>e2 (h.trans e.symm))]
  ·have hb:Nat.beq k x.1=false:=by
    cases hb:Nat.beq k x.1 with
    | false=>rfl
    | true=>exact absurd (Nat.eq_of_beq_eq_true hb) e
   simp only [rem,hb,cond_false]
   by_cases e3:i=x.1
   ·subst e3
    rw [show look x.1 (x::rem k r)=some x.2 from look_set_same,show look x.1 (x::r)=some x.2 from look_set_same,if_neg (fun h=>e h.symm)]
   ·rw [show look i (x::rem k r)=look i (rem k r) from look_set_other e3,show look i (x::r)=look i r from look_set_other e3,ih]
def St.drop(σ:St)(k:Nat):St:={ σ with M:=rem k σ.M }
def St.src (σ:St)(n:Nat):AV→Option (List (List AV))
 | .ls m rows=>bif Nat.beq m n && Nat.blt 0 m then some rows else none
 | .sl k =>
  match look k σ.M with
  | some (.row _ m rows)=>bif Nat.beq m n && Nat.blt 0 m then some rows else none
  | _=>none
 | _=>none
section
variable {P:Program} {C:Cx} {σ σ':St} {G G':Gh} {a:Act} {w w':World} {o:Oper} {d:Tmp}
theorem Ok.drop_ (ok:Ok C σ G a w)(k:Nat):Ok C (σ.drop k) G a w:=by
 have hl:∀ i ob,look i (σ.drop k).M=some ob→i≠k∧look i σ.M=some ob:=fun i ob h=>by
  rw [show look i (σ.drop k).M=_ from look_rem k i σ.M] at h
  by_cases e:i=k
  ·rw [if_pos e] at h;cases h
  ·rw [if_neg e] at h;exact⟨e,h⟩
 exact⟨ok.sz,ok.df,ok.tm,ok.bel,ok.fw,ok.f0,ok.f1,fun i ob h=>ok.ob i ob (hl i ob h).2,fun i o x h=>ok.my i o x (hl i o h).2,fun i o i' o' x h h'=>ok.dj i o i' o' x (hl i o h).2 (hl i' o' h').2,fun i o x p u h=>ok.dF i o x p u (hl i o h).2⟩
theorem drop_look {σ:St} {k i:Nat} {ob:AO} (h:look i (σ.drop k).M=some ob):i≠k∧look i σ.M=some ob:=by
 rw [show look i (σ.drop k).M=_ from look_rem k i σ.M]at h
 by_cases e:i=k
 ·rw [if_pos e]at h;cases h
 ·rw [if_neg e]at h;exact⟨e,h⟩
theorem Ok.newObj (ok:Ok C σ G a w) {S:Nat→Prop} {b n:Nat} {h:Value} {φ:Nat→Prop} {ob:AO} (hb:Kept S w w') (hS:∀ x,S x→C.may x) (hw:∀ k o x,look k σ.M=some o→G.fp k x→¬ S x) (hF:∀ p u,G.F p=some u→¬ S p.block)
  (hob:ObAt (G.with σ.nk b n h φ) w' σ.nk ob) (hbd:ob.bd (σ.nk+1)) (hφ:∀ x,φ x→C.may x∧x<w'.heap.size∧(∀ k o,look k σ.M=some o→¬ G.fp k x)∧∀ p u,G.F p=some u→p.block≠x) :
  Ok C (σ.new ob) (G.with σ.nk b n h φ) a w':=by
 have hle:=G.with_le σ.nk b n h φ
 have hfp:=G.with_fp σ.nk b n h φ
 have hbl:∀ p u,G.F p=some u→w'.heap[p.block]?=w.heap[p.block]?:=fun p u x=>hb.block _ (cell_block (ok.fw p u x)) (hF p u x)
 have ok1:Ok C σ (G.with σ.nk b n h φ) a w':=ok.world hle hfp hb hS (fun k o x h1 h2=>hb.block x (ok.my k o x h1 h2).2 (hw k o x h1 h2)) (fun p u x=>(World.cell?_of_block (hbl p u x)).trans (ok.fw p u x)) (fun _ _ x=>.inl x)
 refine ok1.add hob hbd fun x hx=>?_
 have e2:(G.with σ.nk b n h φ).fp σ.nk=φ:=if_pos rfl
 rw [e2] at hx
 refine ⟨(hφ x hx).1,(hφ x hx).2.1,fun k o h1=>?_,(hφ x hx).2.2.2⟩
 rw [hfp k (ok.ob k o h1).1]
 exact (hφ x hx).2.2.1 k o h1
theorem RowIs.rd {T n:Nat} {rows:List (List AV)} {v:Value} {φ:Nat→Prop} {X:Nat→Nat→(Nat→Prop)→AV→Value→Prop} (h:RowIs w T n rows v φ X) :
  ∃ A c,∃ vs:List (List Value),∃ Φ:Nat→Nat→Nat→Prop,v=.slice A vs.length c∧vs.length=rows.length∧Rd w w.heap.size n A vs∧(∀ r∈vs,r.length=n)∧(∀ r∈vs,∀ u∈r,u.oneCell'=true) ∧
   (∀ (i:Nat) r r',rows[i]?=some r→vs[i]?=some r'→r'.length=r.length)∧(∀ i j x,Φ i j x→φ x∧v.ownBlock≠some x)∧(∀ i j i' j' x,Φ i j x→Φ i' j' x→i=i'∧j=j') ∧
   ∀ (i:Nat) r r' (j:Nat) av u,rows[i]?=some r→vs[i]?=some r'→r[j]?=some av→r'[j]?=some u→X i j (Φ i j) av u:=by
 obtain ⟨hrl,vs,Φ,h4,h5,h7,hgf,hΦ,hΦd,h8,h6⟩:=h
 have hvl:∀ r∈vs,r.length=n:=by
  intro r' hr'
  obtain ⟨q,hq,rfl⟩:=List.getElem_of_mem hr'
  have:=h8 q rows[q] vs[q] (List.getElem?_eq_getElem (by omega)) (List.getElem?_eq_getElem hq)
  rw [this];exact hrl _ (List.getElem_mem _)
 obtain ⟨A,c,hA,hrd,_,_⟩:=rd_of_own h4 hvl rfl rfl
 exact ⟨A,c,vs,Φ,hA,h5,hrd,hvl,h7,h8,hΦ,hΦd,h6⟩
theorem Ok.src_ (ok:Ok C σ G a w) {n:Nat} {av:AV} {rows:List (List AV)} {v:Value} (hs:σ.src n av=some rows) (r:R G av v) :
  ∃ A c,∃ l:List (List Value),v=.slice A rows.length c∧l.length=rows.length∧Rd w w.heap.size n A l∧(∀ r∈l,r.length=n)∧(∀ r∈l,∀ u∈r,u.oneCell'=true)∧(∀ r∈rows,r.length=n)∧∀ (i:Nat) r r',rows[i]?=some r→l[i]?=some r'→RL G.F r r':=by
 cases av with
 | ls m rows' =>
  simp only [St.src] at hs
  cases hmn:Nat.beq m n && Nat.blt 0 m with
  | true =>
   rw [hmn] at hs
   simp only [Bool.and_eq_true] at hmn
   have e:=Nat.eq_of_beq_eq_true hmn.1
   have h0:=of_blt hmn.2
   subst e
   cases hs
   obtain ⟨A,cap,ad,u,rfl,h1,h2,h3,h4,_⟩:=r.pu_of.ls_of
   have key:∀ (i:Nat) r',((List.range rows.length).map fun i=>(List.range m).map (u i))[i]?=some r'→∃ hi:i<rows.length,r'=(List.range m).map (u i):=fun i r' h=>by
    have hi:i<rows.length:=by simpa using(List.getElem?_eq_some_iff.1 h).1
    simp [hi] at h
    exact ⟨hi,h.symm⟩
   refine ⟨A,cap,(List.range rows.length).map fun i=>(List.range m).map (u i),rfl,by simp,fun hp=>⟨ad,h2 (by simpa using hp),?_,fun k r' hr' j x hx=>?_⟩,?_,?_,h1,fun i r r' hr hr'=>?_⟩
   ·have hp:0<rows.length:=by simpa using hp
    have hr0:rows[0]?=some rows[0]:=List.getElem?_eq_getElem hp
    have hl0:0<(rows[0]'hp).length:=by rw [h1 _ (List.getElem_mem hp)];exact h0
    have:=h3 0 rows[0] 0 (rows[0]'hp)[0] hr0 (List.getElem?_eq_getElem hl0)
    have:=cell_block (ok.fw _ _ this.1)
    rwa [block_of_add] at this
   ·obtain ⟨hi,rfl⟩:=key k r' hr'
    have hj:j<m:=by simpa using(List.getElem?_eq_some_iff.1 hx).1
    simp [hj] at hx
    have hlen:=h1 _ (List.getElem_mem hi)
    rw [← hx]
    exact ok.fw _ _ (h3 k rows[k] j _ (List.getElem?_eq_getElem hi) (List.getElem?_eq_getElem (by omega))).1
   ·intro r' hr'
    obtain ⟨q,hq,rfl⟩:=List.getElem_of_mem hr'
    simp
   ·intro r' hr' x hx
    obtain ⟨q,hq,rfl⟩:=List.getElem_of_mem hr'
    obtain ⟨hi,e⟩:=key q _ (List.getElem?_eq_getElem hq)
    rw [e] at hx
    obtain ⟨j,hj,rfl⟩:=List.mem_map.1 hx
    have hj:j<m:=by simpa using hj
    have hlen:=h1 _ (List.getElem_mem hi)
    exact (h3 q rows[q] j _ (List.getElem?_eq_getElem hi) (List.getElem?_eq_getElem (by omega))).2
   ·obtain ⟨hi,rfl⟩:=key i r' hr'
    have hlen:=h1 _ (List.mem_of_getElem? hr)
    refine ⟨by simp [hlen],fun j av x hav hx=>?_⟩
    have hj:j<m:=by simpa using(List.getElem?_eq_some_iff.1 hx).1
    simp [hj] at hx
    rw [← hx]
    exact h4 i r j av hr hav
  | false=>rw [hmn] at hs;cases hs
 | sl k =>
  simp only [St.src] at hs
  cases hk:look k σ.M with
  | none=>simp [hk] at hs
  | some ob =>
   cases ob with
   | box T cells=>simp [hk] at hs
   | rwn T m rows'=>simp [hk] at hs
   | rof T m rows' hi hj y=>simp [hk] at hs
   | rwo T m rows' hi hj y=>simp [hk] at hs
   | bld T e l=>simp [hk] at hs
   | opq q=>simp [hk] at hs
   | row T m rows' =>
    simp only [hk] at hs
    cases hmn:Nat.beq m n && Nat.blt 0 m with
    | true =>
     rw [hmn] at hs
     simp only [Bool.and_eq_true] at hmn
     have e:=Nat.eq_of_beq_eq_true hmn.1
     subst e
     cases hs
     have hob:=(ok.ob k _ hk).2.2
     obtain ⟨hn,hg,hR⟩:=hob
     obtain ⟨A,c,vs,Φ,hA,h5,hrd,hvl,h7,h8,_,_,h6⟩:=hR.rd
     exact ⟨A,c,vs,by rw [r.sl_of.1,hA,h5],h5,hrd,hvl,h7,hR.1,fun i r r' hr hr'=>⟨h8 i r r' hr hr',fun j av u hav hu=>h6 i r r' j av u hr hr' hav hu⟩⟩
    | false=>rw [hmn] at hs;cases hs
 | _=>cases hs
theorem RowIs.app {T e n by_:Nat} {z:Value} {i:TypeInfo} {ty:TypeId} {rows rows2:List (List AV)} {v:Value} {φ φ2:Nat→Prop} {Y:World→(Nat→Prop)→AV→Value→Prop} (h:RowIs w e n rows v φ (fun _ _=>Y w)) (hT:P.underlying T=some (.slice e))
  (hi:P.info? e=some i) (hz:i.zero=some z) (hn:i.size=n) (hby:i.bytes=by_) (hzs:z.cells.size=n) (h0:0<n) {A:Option Addr} {c:Nat} {l:List (List Value)} {Ψ:Nat→Nat→Nat→Prop}
  (hrd:Rd w w.heap.size n A l) (hl:l.length=rows2.length) (hll:∀ r∈l,r.length=n) (hl1:∀ r∈l,∀ u∈r,u.oneCell'=true) (hrl2:∀ r∈rows2,r.length=n)
  (hlen2:∀ (i:Nat) r r',rows2[i]?=some r→l[i]?=some r'→r'.length=r.length) (hΨ:∀ i j x,Ψ i j x→φ2 x) (hΨd:∀ i j i' j' x,Ψ i j x→Ψ i' j' x→i=i'∧j=j') (hdj:∀ x,φ x→φ2 x→False) (hlt:∀ x,φ x∨φ2 x→x<w.heap.size)
  (hrel2:∀ (i:Nat) r r' (j:Nat) av u,rows2[i]?=some r→l[i]?=some r'→r[j]?=some av→r'[j]?=some u→Y w (Ψ i j) av u)
  (hY:∀ w' ψ av u,(∀ x,ψ x→w'.heap[x]?=w.heap[x]?)→Y w ψ av u→Y w' ψ av u) (hb1:rows.length+rows2.length≤1000000000) (hb2:by_≤100000) :
  ∃ v' w',(Builtin.append_ #[T,T] ty #[v,.slice A l.length c]).run P w=.ok v' w'∧w.grownBy w' v.ownBlock∧(v'.ownBlock=v.ownBlock∨v'.ownBlock=some w.heap.size)∧v'.oneCell'=true ∧
   RowIs w' e n (rows++rows2) v' (fun x=>v'.ownBlock=some x∨φ x∨φ2 x) (fun _ _=>Y w'):=by
 obtain ⟨hrl,vs,Φ,h4,h5,h7,hgf,hΦ,hΦd,h8,h6⟩:=h
 obtain ⟨v',w',hrun,q1,q2,q3⟩:=run_append_rd (P:=P) (A:=A) (l:=l) 0 T ty e i z n by_ hT hi hz hn hby hzs h0 v vs.length vs.flatten h4 c hrd hll hl1 (by rw [h5,hl];unfold maxLen;omega) (by rw [h5,hl];exact Nat.le_trans (Nat.mul_le_mul hb1 hb2) (by decide)) (Nat.zero_le _)
 have hone:v'.oneCell'=true:=by rcases q1.2 with⟨e,_⟩|⟨g,cap,cur,e,_⟩<;>rw [e]<;>rfl
 have hno:∀ i j x,Φ i j x→some x≠v'.ownBlock:=fun i j x hx e=>by
  have:=hlt x (.inl (hΦ i j x hx).1)
  rcases q3 with q|q
  ·exact (hΦ i j x hx).2 (q.symm.trans e.symm)
  ·rw [q] at e;cases e;omega
 have hno2:∀ i j x,Ψ i j x→some x≠v'.ownBlock:=fun i j x hx e=>by
  have:=hlt x (.inr (hΨ i j x hx))
  rcases q3 with q|q
  ·exact hdj x (hgf x (q.symm.trans e.symm)) (hΨ i j x hx)
  ·rw [q] at e;cases e;omega
 refine ⟨v',w',hrun,q2,q3,hone,fun r hr=>(List.mem_append.1 hr).elim (hrl r) (hrl2 r),vs++l,fun i j x=>if i<rows.length then Φ i j x else Ψ (i-rows.length) j x,?_,by rw [List.length_append,List.length_append,h5,hl],
  fun r hr=>(List.mem_append.1 hr).elim (h7 r) (hl1 r),fun g hg=>.inl hg,fun i j x hx=>?_,fun i j i' j' x h1 h2=>?_,fun j r r' hr hr'=>?_,fun j r r' s av u hr hr' hs hu=>?_⟩
 ·rw [List.length_append,List.flatten_append];exact q1
 ·have hx:if i<rows.length then Φ i j x else Ψ (i-rows.length) j x:=hx
  by_cases hi:i<rows.length
  ·rw [if_pos hi] at hx
   exact ⟨.inr (.inl (hΦ i j x hx).1),fun e=>hno i j x hx e.symm⟩
  ·rw [if_neg hi] at hx
   exact ⟨.inr (.inr (hΨ _ j x hx)),fun e=>hno2 _ j x hx e.symm⟩
 ·have h1:if i<rows.length then Φ i j x else Ψ (i-rows.length) j x:=h1
  have h2:if i'<rows.length then Φ i' j' x else Ψ (i'-rows.length) j' x:=h2
  by_cases hi:i<rows.length<;>by_cases hi':i'<rows.length
  ·rw [if_pos hi] at h1;rw [if_pos hi'] at h2;exact hΦd i j i' j' x h1 h2
  ·rw [if_pos hi] at h1;rw [if_neg hi'] at h2;exact (hdj x (hΦ i j x h1).1 (hΨ _ j' x h2)).elim
  ·rw [if_neg hi] at h1;rw [if_pos hi'] at h2;exact (hdj x (hΦ i' j' x h2).1 (hΨ _ j x h1)).elim
  ·rw [if_neg hi] at h1;rw [if_neg hi'] at h2
   obtain ⟨e1,e2⟩:=hΨd _ j _ j' x h1 h2
   exact ⟨by omega,e2⟩
 ·by_cases hj:j<rows.length
  ·rw [List.getElem?_append_left hj] at hr
   rw [List.getElem?_append_left (by omega)] at hr'
   exact h8 j r r' hr hr'
  ·rw [List.getElem?_append_right (by omega)] at hr
   rw [List.getElem?_append_right (by omega),h5] at hr'
   exact hlen2 _ r r' hr hr'
 ·have go:∀ ψ:Nat→Prop,(∀ x,ψ x→x<w.heap.size∧some x≠v.ownBlock)→Y w ψ av u→Y w' ψ av u:=fun ψ hψ y=>hY w' ψ av u (fun x hx=>q2.block x (hψ x hx).1 (hψ x hx).2) y
  by_cases hj:j<rows.length
  ·rw [List.getElem?_append_left hj] at hr
   rw [List.getElem?_append_left (by omega)] at hr'
   have e:(fun x=>if j<rows.length then Φ j s x else Ψ (j-rows.length) s x)=Φ j s:=by funext x;rw [if_pos hj]
   show Y w' (fun x=>if j<rows.length then Φ j s x else Ψ (j-rows.length) s x) av u
   rw [e]
   exact go _ (fun x hx=>⟨hlt x (.inl (hΦ _ _ x hx).1),fun e=>(hΦ _ _ x hx).2 e.symm⟩) (h6 j r r' s av u hr hr' hs hu)
  ·rw [List.getElem?_append_right (by omega)] at hr
   rw [List.getElem?_append_right (by omega),h5] at hr'
   have e:(fun x=>if j<rows.length then Φ j s x else Ψ (j-rows.length) s x)=Ψ (j-rows.length) s:=by funext x;rw [if_neg hj]
   show Y w' (fun x=>if j<rows.length then Φ j s x else Ψ (j-rows.length) s x) av u
   rw [e]
   exact go _ (fun x hx=>⟨hlt x (.inr (hΨ _ _ x hx)),fun e=>hdj x (hgf x e.symm) (hΨ _ _ x hx)⟩) (hrel2 _ r r' s av u hr hr' hs hu)
theorem run_appendO {x y:Operand} {T:TypeId} {A:Option Addr} {len c:Nat} {v v':Value} {N:Act→World→Prop} {Q':Exit→Act→World→Prop} (ho:o.op=.call { callee:=.builtin .append,args:=#[x,y],argTypes:=#[T,T] })(ex:a.eval x=v)(ey:a.eval y=.slice A len c)
  (hrun:(Builtin.append_ #[T,T] o.type #[v,.slice A len c]).run P w=.ok v' w')(hN:N (a.put o.dst v') w'):o.wp P a w N Q':=by
 unfold Oper.wp execOp
 have hargs:(#[x,y]:Array Operand).map a.eval=#[v,.slice A len c]:=by simp [ex,ey]
 simp only [ho,resolve,invoke,builtin,Sem.run_bind,Sem.run_pure,Result.andThen_ok,hargs,hrun,Oper.upon]
 exact hN
theorem Ok.joined (ok:Ok C σ G a w) {k:Nat} {ob ob':AO} {n:Nat} {v v':Value} {φ2:Nat→Prop} {gone:List Nat} {σd:St} (okd:Ok C σd G a w) (hd:∀ i o,look i σd.M=some o→i≠k∧look i σ.M=some o∧¬ i∈gone) (hnk:σd.nk=σ.nk)
  (hk:look k σ.M=some ob) (hv:∀ x,v.ownBlock=some x→G.fp k x) (hφ2:∀ x,φ2 x→∃ q o,q∈gone∧look q σ.M=some o∧G.fp q x)
  (hg:w.grownBy w' v.ownBlock) (hv':v'.ownBlock=v.ownBlock∨v'.ownBlock=some w.heap.size) (hvs:∀ x,v'.ownBlock=some x→x<w'.heap.size)
  (hob:ObAt (G.with σd.nk (v'.ownBlock.getD 0) n v' (fun x=>v'.ownBlock=some x∨G.fp k x∨φ2 x)) w' σd.nk ob') (hbd:ob'.bd (σd.nk+1)) :
  Ok C (σd.new ob') (G.with σd.nk (v'.ownBlock.getD 0) n v' (fun x=>v'.ownBlock=some x∨G.fp k x∨φ2 x)) a w':=by
 refine okd.newObj (S:=fun x=>v.ownBlock=some x) ⟨hg.os,hg.tape,hg.output,hg.size,fun x h1 h2=>hg.block x h1 fun e=>h2 e.symm⟩ (fun x hx=>(ok.my k _ x hk (hv x hx)).1)
  (fun i o x h1 h2 h3=>(hd i o h1).1 (ok.dj i o k ob x (hd i o h1).2.1 hk h2 (hv x h3))) (fun p u h1 h2=>ok.dF k ob _ p u hk (hv _ h2) h1 rfl) hob hbd fun x hx=>?_
 have old:∀ q o x,look q σ.M=some o→G.fp q x→(q=k∨q∈gone)→C.may x∧x<w'.heap.size∧(∀ i o,look i σd.M=some o→¬ G.fp i x)∧∀ p u,G.F p=some u→p.block≠x:=fun q o x h1 h2 h3 =>
  ⟨(ok.my q o x h1 h2).1,Nat.lt_of_lt_of_le (ok.my q o x h1 h2).2 hg.size,fun i oi hi h4=>by
   obtain ⟨d1,d2,d3⟩:=hd i oi hi
   have:=ok.dj i oi q o x d2 h1 h4 h2
   rcases h3 with h3|h3
   ·exact d1 (this.trans h3)
   ·exact d3 (this ▸ h3),fun p u=>ok.dF q o x p u h1 h2⟩
 rcases hx with hx|hx|hx
 ·rcases hv' with e|e
  ·exact old k ob x hk (hv x (e.symm.trans hx)) (.inl rfl)
  ·have hxx:x=w.heap.size:=by rw [e] at hx;exact (Option.some.inj hx).symm
   refine ⟨.inl (by rw [hxx];exact ok.bel.size),hvs x hx,fun i o h1 h2=>?_,fun p u h1 h2=>?_⟩
   ·have:=(ok.my i o x (hd i o h1).2.1 h2).2;omega
   ·have:=cell_block (ok.fw p u h1);omega
 ·exact old k ob x hk hx (.inl rfl)
 ·obtain ⟨q,o,h1,h2,h3⟩:=hφ2 x hx
  exact old q o x h2 h3 (.inr h1)
theorem RowIs.lt {T n:Nat} {rows:List (List AV)} {v:Value} {φ:Nat→Prop} {X:Nat→Nat→(Nat→Prop)→AV→Value→Prop} (h:RowIs w T n rows v φ X):∀ x,v.ownBlock=some x→x<w.heap.size:=fun x hx=>by
 obtain⟨_,vs,Φ,h4,_⟩:=h
 rcases h4.2 with⟨e,_⟩|⟨g,cap,cur,e,_,hh,_⟩
 ·rw [e]at hx;cases hx
 ·rw [e]at hx
  obtain rfl:g=x:=Option.some.inj hx
  exact (Array.getElem?_eq_some_iff.1 hh).1
theorem RowIs.fp {T n:Nat} {rows:List (List AV)} {v:Value} {φ:Nat→Prop} {X:Nat→Nat→(Nat→Prop)→AV→Value→Prop} (h:RowIs w T n rows v φ X):∀ x,v.ownBlock=some x→φ x:=by
 obtain⟨_,vs,Φ,h4,_,_,h7,_⟩:=h
 exact h7
theorem with_h {G:Gh} {k b n:Nat} {v:Value} {φ:Nat→Prop}:(G.with k b n v φ).h k=v:=if_pos rfl
theorem with_b {G:Gh} {k b n:Nat} {v:Value} {φ:Nat→Prop}:(G.with k b n v φ).b k=b:=if_pos rfl
theorem with_n {G:Gh} {k b n:Nat} {v:Value} {φ:Nat→Prop}:(G.with k b n v φ).n k=n:=if_pos rfl
theorem with_sl {G:Gh} {k b n:Nat} {v:Value} {φ:Nat→Prop} (h:v.oneCell'=true):R (G.with k b n v φ) (.sl k) v:=by
 have:=R.sl (G:=G.with k b n v φ) k (by rw [with_h];exact h)
 rwa [with_h] at this
theorem with_f {G:Gh} {k b n:Nat} {v:Value} {φ:Nat→Prop}:(G.with k b n v φ).fp k=φ:=if_pos rfl
theorem WO.append {T e n by_ k m:Nat} {z:Value} {i:TypeInfo} {x y:Operand} {rows rows2 rows':List (List AV)} {av2:AV} (ho:o.op=.call { callee:=.builtin .append,args:=#[x,y],argTypes:=#[T,T] }) (hT:P.underlying T=some (.slice e))
  (hi:P.info? e=some i) (hz:i.zero=some z) (hn:i.size=n) (hby:i.bytes=by_) (hzs:z.cells.size=n) (h0:Nat.blt 0 n=true) (hds:o.dst=some d) (hd:Nat.blt d C.N=true)
  (hx:σ.ev x=some (.sl k)) (hk:look k σ.M=some (.row e n rows)) (hy:σ.ev y=some av2) (hs:σ.src n av2=some rows2) (hm:σ.nk=m) (hb1:rows.length+rows2.length≤1000000000) (hb2:Nat.ble by_ 100000=true) (hrr:rows++rows2=rows') :
  WO P C o σ (((σ.drop k).new (.row e n rows')).put d (.sl m)):=by
 intro G a w ok N Q' hN
 obtain ⟨A,c,l,ey,hl,hrd,hll,hl1,hrl2,hrel2⟩:=ok.src_ hs (ok.evr hy).2
 obtain ⟨hn',hg,hR⟩:=(ok.ob k _ hk).2.2
 obtain ⟨v',w',hrun,q2,q3,hone,hR'⟩:=RowIs.app (P:=P) (ty:=o.type) (c:=c) (Y:=fun _ _ av u=>RP G.F av u) (φ2:=fun _=>False) (Ψ:=fun _ _ _=>False) hR hT hi hz hn hby hzs (of_blt h0) hrd hl hll hl1 hrl2 (fun i r r' a b=>(hrel2 i r r' a b).1) (fun _ _ _ h=>h) (fun _ _ _ _ _ h=>h.elim) (fun _ _ h=>h)
  (fun x hx=>hx.elim (fun h=>(ok.my k _ x hk h).2) False.elim) (fun i r r' j av u a b c d=>(hrel2 i r r' a b).2 j av u c d) (fun _ _ _ _ _ h=>h) hb1 (Nat.le_of_ble_eq_true hb2)
 rw [← hl] at ey
 have ok':=ok.joined (gone:=[]) (n:=n) (v':=v') (φ2:=fun _=>False) (ob':=.row e n rows') (okd:=ok.drop_ k) (fun i o h=>⟨(drop_look h).1,(drop_look h).2,by simp⟩) rfl hk hR.fp (fun x h=>h.elim) q2 q3 hR'.lt
  ⟨with_n,(fun g hg=>by rw [with_h] at hg;rw [with_b,hg];rfl),by rw [with_h,with_f,← hrr];exact hR'⟩ trivial
 refine run_appendO ho (ok.evr hx).2.sl_of.1 ey hrun ?_
 rw [hds]
 subst hm
 exact hN _ _ _ (ok'.set (d:=some d) (av:=.sl σ.nk) (v:=v') (by have:=R.sl (G:=G.with σ.nk (v'.ownBlock.getD 0) n v' (fun x=>v'.ownBlock=some x∨G.fp k x∨False)) σ.nk (by rw [with_h];exact hone);rw [with_h] at this;exact this) (.sl _ (Nat.lt_succ_self _)) fun x hx=>by cases hx;exact of_blt hd)
theorem WO.appendM {T e n by_ k q m:Nat} {z:Value} {i:TypeInfo} {x y:Operand} {rows rows2 rows':List (List AV)} {e2:TypeId} (ho:o.op=.call { callee:=.builtin .append,args:=#[x,y],argTypes:=#[T,T] }) (hT:P.underlying T=some (.slice e))
  (hi:P.info? e=some i) (hz:i.zero=some z) (hn:i.size=n) (hby:i.bytes=by_) (hzs:z.cells.size=n) (h0:Nat.blt 0 n=true) (hds:o.dst=some d) (hd:Nat.blt d C.N=true)
  (hx:σ.ev x=some (.sl k)) (hk:look k σ.M=some (.rwn e n rows)) (hy:σ.ev y=some (.sl q)) (hq:look q σ.M=some (.rwn e2 n rows2)) (hkq:Nat.beq k q=false) (hm:σ.nk=m) (hb1:rows.length+rows2.length≤1000000000) (hb2:Nat.ble by_ 100000=true) (hrr:rows++rows2=rows') :
  WO P C o σ ((((σ.drop k).drop q).new (.rwn e n rows')).put d (.sl m)):=by
 intro G a w ok N Q' hN
 have hkq':k≠q:=fun e=>by rw [e,Nat.beq_refl] at hkq;cases hkq
 obtain ⟨hn',hg,hR⟩:=(ok.ob k _ hk).2.2
 obtain ⟨hn2,hg2,hR2⟩:=(ok.ob q _ hq).2.2
 obtain ⟨A,c,l,Ψ,hA,hl,hrd,hll,hl1,hlen,hΨ,hΨd,hrel2⟩:=hR2.rd
 have ey:a.eval y=.slice A l.length c:=(ok.evr hy).2.sl_of.1.trans hA
 obtain ⟨v',w',hrun,q2,q3,hone,hR'⟩:=RowIs.app (P:=P) (ty:=o.type) (c:=c) (Y:=fun w ψ av u=>OW G.F w av u ψ) (φ2:=G.fp q) (Ψ:=Ψ) hR hT hi hz hn hby hzs (of_blt h0) hrd hl hll hl1 hR2.1 hlen (fun i j x h=>(hΨ i j x h).1) hΨd (fun x h1 h2=>hkq' (ok.dj k _ q _ x hk hq h1 h2))
  (fun x hx=>hx.elim (fun h=>(ok.my k _ x hk h).2) fun h=>(ok.my q _ x hq h).2) hrel2 (fun _ _ _ _ hw h=>h.keep (fun _ _ h=>h) hw) hb1 (Nat.le_of_ble_eq_true hb2)
 have ok':=ok.joined (gone:=[q]) (n:=n) (v':=v') (φ2:=G.fp q) (ob':=.rwn e n rows') (okd:=(ok.drop_ k).drop_ q) (fun i o h=>⟨(drop_look (drop_look h).2).1,(drop_look (drop_look h).2).2,by simp;exact (drop_look h).1⟩) rfl hk hR.fp (fun x h=>⟨q,_,by simp,hq,h⟩) q2 q3 hR'.lt
  ⟨with_n,(fun g hg=>by rw [with_h] at hg;rw [with_b,hg];rfl),by rw [with_h,with_f,← hrr];exact hR'⟩ trivial
 refine run_appendO ho (ok.evr hx).2.sl_of.1 ey hrun ?_
 rw [hds]
 subst hm
 exact hN _ _ _ (ok'.set (d:=some d) (av:=.sl σ.nk) (v:=v') (by have:=R.sl (G:=G.with σ.nk (v'.ownBlock.getD 0) n v' (fun x=>v'.ownBlock=some x∨G.fp k x∨G.fp q x)) σ.nk (by rw [with_h];exact hone);rw [with_h] at this;exact this) (.sl _ (Nat.lt_succ_self _)) fun x hx=>by cases hx;exact of_blt hd)
theorem Ok.nilRow (ok:Ok C σ G a w) (T:TypeId) (n:Nat):∃ G',Ok C (σ.new (.row T n [])) G' a w∧R G' (.sl σ.nk) (.slice none 0 0) :=
 ⟨_,ok.newObj (S:=fun _=>False) (b:=0) (n:=n) (h:=.slice none 0 0) (φ:=fun _=>False) (ob:=.row T n []) (Kept.refl _ w) (fun _ h=>h.elim) (fun _ _ _ _ _ h=>h) (fun _ _ _ h=>h)
  ⟨with_n,(fun g hg=>by rw [with_h] at hg;cases hg),by
   rw [with_h,with_f]
   exact ⟨by simp,[],fun _ _ _=>False,⟨by simp,.inl ⟨rfl,rfl⟩⟩,rfl,by simp,(fun g hg=>by cases hg),fun _ _ _ h=>h.elim,fun _ _ _ _ _ h=>h.elim,fun i r r' h=>by simp at h,fun i r r' j av u h=>by simp at h⟩⟩ trivial (fun x h=>h.elim),with_sl rfl⟩
theorem Ok.reslot (ok:Ok C σ G a w) {t:Tmp} {av av':AV} (h:look t σ.t=some av)(hb:Bd σ.nk av')(hr:∀ v,R G av v→R G av' v):Ok C (σ.put t av') G a w:=by
 have h1:=ok.tm t _ h
 refine⟨ok.sz,ok.df,fun i x hx=>?_,ok.bel,ok.fw,ok.f0,ok.f1,ok.ob,ok.my,ok.dj,ok.dF⟩
 by_cases e:i=t
 ·subst e
  rw [show look i (St.put σ i av').t=some av' from look_set_same] at hx
  cases hx
  exact⟨h1.1,hb,hr _ h1.2.2⟩
 ·rw [show look i (St.put σ t av').t=look i σ.t from look_set_other e] at hx
  exact ok.tm i x hx
theorem Ok.reob (ok:Ok C σ G a w) {k:Nat} {ob ob':AO} (hk:look k σ.M=some ob) (h:k<σ.nk∧ob'.bd σ.nk∧ObAt G w k ob'):Ok C (σ.upd k ob') G a w:=by
 have hl:∀ k' o,look k' (σ.upd k ob').M=some o→(k'=k∧o=ob')∨look k' σ.M=some o:=fun k' o hx=>by
  by_cases e:k'=k
  ·subst e
   rw [show look k' (σ.upd k' ob').M=some ob' from look_set_same] at hx
   cases hx
   exact .inl ⟨rfl,rfl⟩
  ·rw [show look k' (σ.upd k ob').M=look k' σ.M from look_set_other e] at hx
   exact .inr hx
 have some_:∀ k' o,look k' (σ.upd k ob').M=some o→∃ o',look k' σ.M=some o':=fun k' o h=>by
  rcases hl k' o h with⟨rfl,_⟩|y
  ·exact ⟨_,hk⟩
  ·exact ⟨o,y⟩
 refine ⟨ok.sz,ok.df,ok.tm,ok.bel,ok.fw,ok.f0,ok.f1,fun k' o h'=>?_,fun k' o x h1 h2=>?_,fun k1 o1 k2 o2 x h1 h2=>?_,fun k1 o1 x p u h1=>?_⟩
 ·rcases hl k' o h' with⟨rfl,rfl⟩|y
  ·exact h
  ·exact ok.ob k' o y
 ·obtain ⟨o',y⟩:=some_ k' o h1
  exact ok.my k' o' x y h2
 ·obtain ⟨o1',y1⟩:=some_ k1 o1 h1
  obtain ⟨o2',y2⟩:=some_ k2 o2 h2
  exact ok.dj k1 o1' k2 o2' x y1 y2
 ·obtain ⟨o1',y1⟩:=some_ k1 o1 h1
  exact ok.dF k1 o1' x p u y1
theorem Tr.nil {t:Tmp} {m:Nat} (T:TypeId)(n:Nat)(h:look t σ.t=some (.sc (.slice none 0 0)))(hm:σ.nk=m):Tr C σ ((σ.new (.row T n [])).put t (.sl m)):=fun G a w ok=>by
 obtain⟨G',ok',hsl⟩:=ok.nilRow T n
 subst hm
 exact⟨G',ok'.reslot (av:=.sc (.slice none 0 0)) h (.sl _ (Nat.lt_succ_self _)) fun v hv=>by rw [hv.sc_eq];exact hsl⟩
theorem Tr.widen (k:Nat) {T n:Nat} {rows:List (List AV)} (hk:look k σ.M=some (.row T n rows)):Tr C σ (σ.upd k (.rwn T n rows)):=fun G a w ok=>by
 obtain ⟨g1,g2,g3,g4,g5⟩:=ok.ob k _ hk
 exact ⟨G,ok.reob hk ⟨g1,trivial,g3,g4,g5.keep (fun _ _=>rfl) fun i r j av ψ u _ _ _ x=>.pu _ _ _ x⟩⟩
end
end
section
open Go.RowKit
def AV.frz0 (k n:Nat)(rows:List (List AV)):AV→AV
 | .sl q=>bif Nat.beq q k then .ls n rows else .sl q
 | av=>av
def AV.frz1 (k n:Nat)(rows:List (List AV)):AV→AV
 | .fn f l=>.fn f (l.map (AV.frz0 k n rows))
 | av=>av.frz0 k n rows
def AV.frz2 (k n:Nat)(rows:List (List AV)):AV→AV
 | .ag l=>.ag (l.map (AV.frz1 k n rows))
 | av=>av.frz1 k n rows
def AV.frz (k n:Nat)(rows:List (List AV)):AV→AV
 | .tu l=>.tu (l.map (AV.frz2 k n rows))
 | av=>av.frz2 k n rows
def AO.frz (k n:Nat)(rows:List (List AV)):AO→AO
 | .box T cells=>.box T (cells.map (AV.frz1 k n rows))
 | .rof T m rs hi hj x=>.rof T m rs hi hj (x.frz1 k n rows)
 | .rwo T m rs hi hj x=>.rwo T m rs hi hj (x.frz1 k n rows)
 | ob=>ob
def mapS {α β:Type} (f:α→β):List (Nat×α)→List (Nat×β)
 | []=>[]
 | x::r=>(x.1,f x.2)::mapS f r
theorem look_mapS {α β:Type} (f:α→β)(i:Nat):∀ (l:List (Nat×α)),look i (mapS f l)=(look i l).map f
 | []=>rfl
 | x::r=>by
  by_cases e:i=x.1
  ·subst e
   rw [show look x.1 (x::r)=some x.2 from look_set_same]
   exact look_set_same
  ·rw [show look i (x::r)=look i r from look_set_other e,← look_mapS f i r]
   exact look_set_other e
def St.freeze (σ:St) (k n:Nat) (rows:List (List AV)):St:=⟨mapS (AV.frz k n rows) σ.t,mapS (AO.frz k n rows) (rem k σ.M),σ.nk⟩
def AV.fz:Nat→AV→AV
 | d+1,.ow _ n rows=>.ls n (rows.map fun r=>r.map (AV.fz d))
 | _,av=>av
def AV.shal:Nat→AV→Bool
 | 0,.ow _ _ _=>false
 | d+1,.ow _ _ rows=>rows.all fun r=>r.all (AV.shal d)
 | _,_=>true
section
variable {P:Program} {C:Cx} {σ σ':St} {G G':Gh} {a:Act} {w w':World} {o:Oper} {d:Tmp}
theorem list_R {Q:AV→AV} {l:List AV} {cs:Array Value} (h1:cs.size=l.length)(h2:∀ (i:Nat) av u,l[i]?=some av→cs[i]?=some u→R G av u)(hq:∀ av u,R G av u→R G (Q av) u) :
  cs.size=(l.map Q).length∧∀ (i:Nat) av u,(l.map Q)[i]?=some av→cs[i]?=some u→R G av u:=by
 refine⟨by simpa using h1,fun i av u x y=>?_⟩
 rw [List.getElem?_map] at x
 cases hx:l[i]? with
 | none=>simp [hx] at x
 | some b=>simp [hx] at x;rw [← x];exact hq _ _ (h2 i b u hx y)
theorem list_bd {Q:AV→AV} {nk:Nat} {l:List AV} (h:∀ (i:Nat)x,l[i]?=some x→Bd nk x)(hq:∀ av,Bd nk av→Bd nk (Q av)):∀ (i:Nat)x,(l.map Q)[i]?=some x→Bd nk x:=fun i x hx=>by
 rw [List.getElem?_map]at hx
 cases hq':l[i]? with
 | none=>simp [hq']at hx
 | some y=>simp [hq']at hx;rw [← hx];exact hq _ (h i y hq')
section
variable {k n nk:Nat} {rows:List (List AV)} {av:AV} {v:Value}
theorem frz0_R (h:R G (.ls n rows) (G.h k)) (r:R G av v):R G (av.frz0 k n rows) v:=by
 cases av with
 | sl q =>
  simp only [AV.frz0]
  cases e:Nat.beq q k with
  | true=>obtain rfl:=Nat.eq_of_beq_eq_true e;rw [r.sl_of.1];exact h
  | false=>exact r
 | _=>exact r
theorem frz0_bd (b:Bd nk av):Bd nk (av.frz0 k n rows):=by
 cases av with
 | sl q =>
  simp only [AV.frz0]
  cases e:Nat.beq q k with
  | true=>exact .ls _ _
  | false=>exact b
 | _=>exact b
theorem frz1_R (h:R G (.ls n rows) (G.h k)) (r:R G av v):R G (av.frz1 k n rows) v:=by
 cases av with
 | fn f l =>
  obtain ⟨cs,rfl,h1,h2⟩:=r.fn_of
  obtain ⟨q1,q2⟩:=list_R h1 h2 fun _ _=>frz0_R h
  exact .fn f _ cs q1 q2
 | sl q=>exact frz0_R (av:=.sl q) h r
 | _=>exact r
theorem frz1_bd (b:Bd nk av):Bd nk (av.frz1 k n rows):=by
 cases av with
 | fn f l=>cases b with|fn _ _ hb=>exact .fn f _ (list_bd hb fun _=>frz0_bd)
 | sl q=>exact frz0_bd (av:=.sl q) b
 | _=>exact b
theorem frz2_R (h:R G (.ls n rows) (G.h k)) (r:R G av v):R G (av.frz2 k n rows) v:=by
 cases av with
 | ag l =>
  obtain ⟨cs,rfl,h1,h2⟩:=r.ag_of
  obtain ⟨q1,q2⟩:=list_R h1 h2 fun _ _=>frz1_R h
  exact .ag _ cs q1 q2
 | fn f l=>exact frz1_R (av:=.fn f l) h r
 | sl q=>exact frz0_R (av:=.sl q) h r
 | _=>exact r
theorem frz2_bd (b:Bd nk av):Bd nk (av.frz2 k n rows):=by
 cases av with
 | ag l=>cases b with|ag _ hb=>exact .ag _ (list_bd hb fun _=>frz1_bd)
 | fn f l=>exact frz1_bd (av:=.fn f l) b
 | sl q=>exact frz0_bd (av:=.sl q) b
 | _=>exact b
theorem frz_R (h:R G (.ls n rows) (G.h k)) (r:R G av v):R G (av.frz k n rows) v:=by
 cases av with
 | tu l =>
  obtain ⟨cs,rfl,h1,h2⟩:=r.tu_of
  obtain ⟨q1,q2⟩:=list_R h1 h2 fun _ _=>frz2_R h
  exact .tu _ cs q1 q2
 | ag l=>exact frz2_R (av:=.ag l) h r
 | fn f l=>exact frz1_R (av:=.fn f l) h r
 | sl q=>exact frz0_R (av:=.sl q) h r
 | _=>exact r
theorem frz_bd (b:Bd nk av):Bd nk (av.frz k n rows):=by
 cases av with
 | tu l=>cases b with|tu _ hb=>exact .tu _ (list_bd hb fun _=>frz2_bd)
 | ag l=>exact frz2_bd (av:=.ag l) b
 | fn f l=>exact frz1_bd (av:=.fn f l) b
 | sl q=>exact frz0_bd (av:=.sl q) b
 | _=>exact b
theorem frz1_C {φ:Nat→Prop} (h:R G (.ls n rows) (G.h k)) (r:CR G w φ av v):CR G w φ (av.frz1 k n rows) v:=by
 rcases r with r|o
 ·exact .inl (frz1_R h r)
 ·by_cases ho:av.own=true
  ·cases av with
   | ow T n rows=>exact .inr o
   | _=>cases ho
  ·exact .inl (frz1_R h (.pu _ _ (OW.p o (by simpa using ho))))
end
theorem RowIs.fix {T n:Nat} {rows:List (List AV)} {v:Value} {φ:Nat→Prop} {X:Nat→Nat→(Nat→Prop)→AV→Value→Prop} {F':View} (f:AV→AV) (h:RowIs w T n rows v φ X) (hF:∀ p,φ p.block→F' p=w.cell? p)
    (hX:∀ (i:Nat) r (j:Nat) av u ψ,rows[i]?=some r→r[j]?=some av→(∀ x,ψ x→φ x)→X i j ψ av u→RP F' (f av) u):RP F' (.ls n (rows.map fun r=>r.map f)) v:=by
  have hfp:=h.2
  obtain ⟨vs0,_,_,_,_,hgf,_⟩:=hfp
  obtain ⟨A,c,vs,Φ,hA,h5,hrd,hvl,h7,h8,hΦ,_,h6⟩:=h.rd
  have hrl:=h.1
  have h4:=h.2
  obtain ⟨vs1,Φ1,h4,h51,_⟩:=h4
  have hcap:rows.length≤c:=by
    rcases h4.2 with⟨e,e2⟩|⟨g,cap,cur,e,_,_,hnc,_⟩
    · omega
    · rw [e] at hA;injection hA with _ _ hA;omega
  have hgA:∀ ad,A=some ad→φ ad.block:=fun ad e=>by
    rcases h4.2 with⟨e1,e2⟩|⟨g,cap,cur,e1,_⟩
    · rw [e1,e] at hA;cases hA
    · rw [e1,e] at hA;injection hA with hA _ _;cases hA
      exact hgf g (by rw [e1];rfl)
  have hv:v=.slice A (rows.map fun r=>r.map f).length c:=by rw [hA,List.length_map,h5]
  rw [hv]
  by_cases hp:0<rows.length
  · obtain ⟨ad,had,_⟩:=hrd zqo
    refine .ls n _ A c ad (fun i j=>((vs.getD i []).getD j undef)) (by simpa using hcap) (fun r hr=>?_) (fun _=>had) (fun i r j av hr hav=>?_) (fun i r j av hr hav=>?_)
    · obtain ⟨r',hr',rfl⟩:=List.mem_map.1 hr
      rw [List.length_map];exact hrl _ hr'
    all_goals
      rw [List.getElem?_map] at hr
      cases hr0:rows[i]? with
      | none=>simp [hr0] at hr
      | some r0 =>
        simp only [hr0,Option.map_some,Option.some.injEq] at hr
        subst hr
        rw [List.getElem?_map] at hav
        cases hav0:r0[j]? with
        | none=>simp [hav0] at hav
        | some av0 =>
          simp only [hav0,Option.map_some,Option.some.injEq] at hav
          subst hav
          have hi:i<rows.length:=(List.getElem?_eq_some_iff.1 hr0).1
          have hv:vs[i]?=some vs[i]:=List.getElem?_eq_getElem (by omega)
          have e1:=h8 i r0 _ hr0 hv
          have hj:j<vs[i].length:=by rw [e1];exact (List.getElem?_eq_some_iff.1 hav0).1
          have hu:(vs.getD i []).getD j undef=vs[i][j]:=by simp [List.getD,hv,hj]
          simp only [hu]
          first
            | (refine ⟨?_,h7 _ (List.getElem_mem _) _ (List.getElem_mem _)⟩
               obtain ⟨ad',had',_,hc⟩:=Rd.at_ (k:=i) hrd zqo
               obtain rfl:ad'=ad:=by rw [had] at had';exact (Option.some.inj had').symm
               rw [hF _ (by rw [block_of_add];exact hgA _ had)]
               exact hc j _ (List.getElem?_eq_getElem hj))
            |exact hX i r0 j av0 _ _ hr0 hav0 (fun x hx=>(hΦ i j x hx).1) (h6 i r0 _ j av0 _ hr0 hv hav0 (List.getElem?_eq_getElem hj))
  · have h0:rows=[]:=List.eq_nil_of_length_eq_zero zqo
    subst h0
    exact .ls n [] A c ⟨0,0,none⟩ (fun _ _=>undef) (by simp) (by simp) (fun h=>absurd h (by simp)) (fun i r j av h=>by simp at h) (fun i r j av h=>by simp at h)
theorem fz_pu {d:Nat} {av:AV} (h:av.own=false):av.fz d=av:=by
 cases d<;>cases av<;>first|rfl|cases h
theorem OW.fix {F F':View} (hle:F.le F'):∀ (d:Nat) {av:AV} {v:Value} {φ:Nat→Prop},OW F w av v φ→(∀ p,φ p.block→F' p=w.cell? p)→av.shal d=true→RP F' (av.fz d) v
 | d,av,v,φ,h,hF,hs=>by
  by_cases ho:av.own=true
  ·cases av with
   | ow T n rows =>
    cases d with
    | zero=>cases hs
    | succ d =>
     refine RowIs.fix (AV.fz d) h.row hF fun i r j av u ψ hr hav hψ x=>?_
     have h1:(rows.all fun r=>r.all (AV.shal d))=true:=hs
     have h2:=List.all_eq_true.1 (List.all_eq_true.1 h1 r (List.mem_of_getElem? hr)) av (List.mem_of_getElem? hav)
     exact OW.fix hle d x (fun p hp=>hF p (hψ _ hp)) h2
   | _=>cases ho
  ·rw [fz_pu (by simpa using ho)]
   exact (h.p (by simpa using ho)).mono hle
theorem Tr.freezeG (k:Nat) {n:Nat} {rows':List (List AV)} {ob:AO} (hk:look k σ.M=some ob) (hls:∀ G w (F':View),ObAt G w k ob→G.F.le F'→(∀ p,G.fp k p.block→F' p=w.cell? p)→RP F' (.ls n rows') (G.h k)):Tr C σ (σ.freeze k n rows'):=fun G a w ok=>by
 obtain ⟨hkn,_,hob⟩:=ok.ob k _ hk
 classical
 let F':View:=fun p=>if G.fp k p.block then w.cell? p else G.F p
 have hF:G.F.le F':=fun p u h=>by
  show (if _ then _ else _)=_
  rw [if_neg (fun e=>ok.dF k _ p.block p u hk e h rfl)];exact h
 have hFn:∀ p u,F' p=some u→G.F p=some u∨(G.fp k p.block∧w.cell? p=some u):=fun p u h=>by
  have h:(if G.fp k p.block then w.cell? p else G.F p)=some u:=h
  by_cases e:G.fp k p.block
  ·rw [if_pos e] at h;exact .inr ⟨e,h⟩
  ·rw [if_neg e] at h;exact .inl h
 have hls:=hls G w F' hob hF (fun p hp=>if_pos hp)
 have hle:G.le { G with F:=F' } σ.nk:=⟨hF,fun _ _=>rfl,fun _ _=>rfl,fun _ _=>rfl⟩
 have hls':R { G with F:=F' } (.ls n rows') (({ G with F:=F' }:Gh).h k):=.pu _ _ hls
 have hl:∀ i ob,look i (σ.freeze k n rows').M=some ob→∃ ob0,i≠k∧look i σ.M=some ob0∧ob=ob0.frz k n rows':=fun i ob h=>by
  rw [show look i (σ.freeze k n rows').M=_ from look_mapS _ i _,look_rem] at h
  by_cases e:i=k
  ·rw [if_pos e] at h;cases h
  ·rw [if_neg e] at h
   cases hq:look i σ.M with
   | none=>simp [hq] at h
   | some ob0=>simp [hq] at h;exact ⟨ob0,e,rfl,h.symm⟩
 refine ⟨{ G with F:=F' },ok.sz,ok.df,fun i av h=>?_,ok.bel,fun p u h=>?_,fun p u h=>hF p u (ok.f0 p u h),fun p u h=>?_,fun i ob h=>?_,fun i o x h1 h2=>?_,?_,?_⟩
 ·rw [show look i (σ.freeze k n rows').t=_ from look_mapS _ i _] at h
  cases hq:look i σ.t with
  | none=>simp [hq] at h
  | some av0 =>
   simp [hq] at h
   obtain ⟨h1,h2,h3⟩:=ok.tm i av0 hq
   rw [← h]
   exact ⟨h1,frz_bd h2,frz_R hls' (h3.mono hle h2)⟩
 ·rcases hFn p u h with h|⟨_,h⟩
  ·exact ok.fw p u h
  ·exact h
 ·rcases hFn p u h with h|⟨h,_⟩
  ·exact ok.f1 p u h
  ·exact .inr (ok.my k _ _ hk h).1
 ·obtain ⟨ob0,e,h0,rfl⟩:=hl i ob h
  obtain ⟨g1,g2,g3⟩:=ok.ob i ob0 h0
  have g4:=g3.keep (w':=w) (G':={ G with F:=F' }) hle g1 g2 rfl (fun _ _=>rfl)
  refine ⟨g1,?_,?_⟩
  ·cases ob0 with
   | box T cells=>exact list_bd g2 fun _=>frz1_bd
   | rof T m rs hi hj y=>exact frz1_bd g2
   | rwo T m rs hi hj y=>exact frz1_bd g2
   | _=>exact g2
  ·cases ob0 with
   | box T cells =>
    obtain ⟨b1,cs,Φ,b2,b3,b4,b5,b6⟩:=g4
    refine ⟨b1,cs,Φ,b2,by simpa using b3,b4,b5,fun j av u x y=>?_⟩
    rw [List.getElem?_map] at x
    cases hq:cells[j]? with
    | none=>simp [hq] at x
    | some b=>simp [hq] at x;rw [← x];exact frz1_C hls' (b6 j b u hq y)
   | rof T m rs hi hj y =>
    obtain ⟨c1,c2,c3⟩:=g4
    refine ⟨c1,c2,c3.keep (fun _ _=>rfl) fun i r j av ψ u _ _ _ x=>?_⟩
    unfold XH at x ⊢
    by_cases e:i=hi∧j=hj
    ·rw [if_pos e] at x ⊢
     exact frz1_R hls' x
    ·rw [if_neg e] at x ⊢
     exact x
   | rwo T m rs hi hj y =>
    obtain ⟨c1,c2,c3⟩:=g4
    refine ⟨c1,c2,c3.keep (fun _ _=>rfl) fun i r j av ψ u _ _ _ x=>?_⟩
    unfold XQ at x ⊢
    by_cases e:i=hi∧j=hj
    ·rw [if_pos e] at x ⊢
     exact frz1_R hls' x
    ·rw [if_neg e] at x ⊢
     exact x
   | _=>exact g4
 ·obtain ⟨ob0,e,h0,rfl⟩:=hl i o h1
  exact ok.my i ob0 x h0 h2
 ·intro i o i' o' x h1 h2 h3 h4
  obtain ⟨ob0,e,h0,rfl⟩:=hl i o h1
  obtain ⟨ob0',e',h0',rfl⟩:=hl i' o' h2
  exact ok.dj i ob0 i' ob0' x h0 h0' h3 h4
 ·intro i o x p u h1 h2 h3
  obtain ⟨ob0,e,h0,rfl⟩:=hl i o h1
  rcases hFn p u h3 with h|⟨h,_⟩
  ·exact ok.dF i ob0 x p u h0 h2 h
  ·intro e2
   exact e (ok.dj i ob0 k _ x h0 hk h2 (by rw [← e2];exact h))
theorem Tr.freeze (k:Nat) {T n:Nat} {rows:List (List AV)} (hk:look k σ.M=some (.row T n rows)):Tr C σ (σ.freeze k n rows) :=
 Tr.freezeG k hk fun G w F' h hle hF=>by
  have:=RowIs.fix (F':=F') id h.2.2 hF fun i r j av u ψ _ _ _ x=>RP.mono hle x
  simpa using this
end
end
section
open Go.RowKit
def onlyT (t:List (Nat×AV)):List Nat→List (Nat×AV)
 | []=>[]
 | x::r =>
  match look x t with
  | some av=>(x,av)::onlyT t r
  | none=>onlyT t r
def St.only(σ:St)(ts:List Nat):St:={ σ with t:=onlyT σ.t ts }
theorem look_onlyT {t:List (Nat×AV)} {i:Nat} {av:AV}:∀ {ts:List Nat},look i (onlyT t ts)=some av→look i t=some av
 | [],h=>by cases h
 | x::r,h=>by
  unfold onlyT at h
  cases hx:look x t with
  | none=>rw [hx]at h;exact look_onlyT h
  | some a =>
   rw [hx]at h
   by_cases e:i=x
   ·subst e
    rw [look_set_same]at h
    rw [hx];exact h
   ·rw [look_set_other e]at h;exact look_onlyT h
theorem onlyT_congr {t t':List (Nat×AV)}:∀ {ts:List Nat},(∀ x∈ts,look x t=look x t')→onlyT t ts=onlyT t' ts
 | [],_=>rfl
 | x::r,h=>by
  unfold onlyT
  rw [h x (by simp),onlyT_congr fun y hy=>h y (by simp [hy])]
section
variable {P:Program} {C:Cx} {σ σ':St} {G G':Gh} {a:Act} {w w':World} {ops:Array Oper} {Q:Exit→St→Prop}
theorem Ok.only_ (ok:Ok C σ G a w)(ts:List Nat):Ok C (σ.only ts) G a w :=
 ⟨ok.sz,ok.df,fun i av h=>ok.tm i av (look_onlyT h),ok.bel,ok.fw,ok.f0,ok.f1,ok.ob,ok.my,ok.dj,ok.dF⟩
theorem Ok.congr_ (ok:Ok C σ G a w) (h:∀ t,look t σ'.t=look t σ.t) (hM:σ'.M=σ.M) (hn:σ'.nk=σ.nk):Ok C σ' G a w :=
 ⟨ok.sz,by rw [hn];exact ok.df,fun i av x=>by rw [hn];exact ok.tm i av (by rw [← h];exact x),ok.bel,ok.fw,ok.f0,ok.f1,fun k o x=>by rw [hn];exact ok.ob k o (by rw [← hM];exact x),fun k o x a=>ok.my k o x (by rw [← hM];exact a),fun k o k' o' x a b=>ok.dj k o k' o' x (by rw [← hM];exact a) (by rw [← hM];exact b),fun k o x p u a=>ok.dF k o x p u (by rw [← hM];exact a)⟩
def guardK (ops:Array Oper)(o:Oper)(σ:St):Option Bool :=
 match o.guard with
 | none=>some true
 | some (j,b) =>
  match (ops[j]?).bind (·.dst)with
  | some d =>
   match look d σ.t with
   | some (.sc v)=>some (match vb v with|some c=>c == b|none=>false)
   | _=>none
  | none=>none
theorem guardK_wanted {o:Oper} {b:Bool} (ok:Ok C σ G a w)(h:guardK ops o σ=some b):Region.wanted o (yielded ops a.tmps)=b:=by
 unfold guardK at h
 unfold Region.wanted
 cases hg:o.guard with
 | none=>rw [hg]at h;cases h;rfl
 | some x =>
  obtain⟨j,c⟩:=x
  rw [hg]at h
  simp only at h ⊢
  cases hj:ops[j]? with
  | none=>simp [hj]at h
  | some oj =>
   cases hd:oj.dst with
   | none=>simp [hj,hd]at h
   | some d =>
    simp only [hj,Option.bind_some,hd]at h
    cases hv:look d σ.t with
    | none=>simp [hv]at h
    | some av =>
     cases av with
     | sc v =>
      simp only [hv]at h
      cases h
      rw [yielded_of ok hj hd hv]
      cases vb v with
      | none=>rfl
      | some c'=>cases c'<;>cases c<;>rfl
     | _=>simp [hv]at h
def Does (P:Program)(C:Cx)(ops:Array Oper)(o:Oper)(σ:St)(av:AV):Prop :=
 (guardK ops o (σ.only (o.looksAt ops))=some true∧WV P C o (σ.only (o.looksAt ops)) av)∨(guardK ops o (σ.only (o.looksAt ops))=some false∧av=.sc undef)
theorem Does.congr_ {o:Oper} {av:AV} (h:Does P C ops o σ av)(hl:∀ t∈o.looksAt ops,look t σ.t=look t σ'.t)(hM:σ'.M=σ.M)(hn:σ'.nk=σ.nk):Does P C ops o σ' av:=by
 have e:σ'.only (o.looksAt ops)=σ.only (o.looksAt ops):=by
  unfold St.only
  rw [hM,hn,onlyT_congr fun x hx=>(hl x hx).symm]
 unfold Does
 rw [e];exact h
inductive DL (P:Program)(C:Cx)(ops:Array Oper):List Oper→St→St→Prop
 | nil (σ:St):DL P C ops [] σ σ
 | op (o:Oper)(rest:List Oper)(d:Tmp)(av:AV)(σ σ':St):o.dst=some d→Nat.blt d C.N=true→Does P C ops o σ av→DL P C ops rest (σ.put d av) σ'→DL P C ops (o::rest) σ σ'
def ent1 (o:Option Tmp)(b:Bool)(av:AV):List (Nat×AV) :=
 match b,o with
 | true,some d=>[(d,av)]
 | _,_=>[]
theorem look_ent1 (t:Nat) (o:Option Tmp) (b:Bool) (av:AV):look t (ent1 o b av)=if b=true∧o=some t then some av else none:=by
 cases b with
 | false=>simp [ent1,look]
 | true =>
  cases o with
  | none=>simp [ent1,look]
  | some d =>
   by_cases e:t=d
   ·subst e;rw [if_pos ⟨rfl,rfl⟩];exact look_set_same
   ·rw [if_neg (fun h=>e (by injection h.2 with h;exact h.symm))]
    show look t [(d,av)]=none
    rw [look_set_other e];rfl
def ents (ops:Array Oper) (avs:Nat→AV) (s:Nat→Bool):Nat→List (Nat×AV)
 | 0=>[]
 | m+1=>ent1 ((ops[m]?).bind (·.dst)) (s m) (avs m)++ents ops avs s m
theorem look_app {α:Type} (i:Nat):∀ (l m:List (Nat×α)),look i (l++m)=(look i l).or (look i m)
 | [],m=>rfl
 | x::r,m=>by
  by_cases e:i=x.1
  ·subst e
   rw [List.cons_append,look_set_same,look_set_same];rfl
  ·rw [List.cons_append,look_set_other e,look_set_other e,look_app i r m]
theorem ents_agree {avs:Nat→AV} {s s':Nat→Bool} {t:Nat}:∀ {m:Nat},(∀ i,i<m→(ops[i]?).bind (·.dst)=some t→s i=s' i)→look t (ents ops avs s m)=look t (ents ops avs s' m)
 | 0,_=>rfl
 | m+1,h=>by
  have ih:=ents_agree (avs:=avs) (s:=s) (s':=s') (t:=t) (m:=m) fun i hi hd=>h i zqo hd
  unfold ents
  rw [look_app,look_app,ih,look_ent1,look_ent1]
  by_cases e:(ops[m]?).bind (·.dst)=some t
  ·rw [h m (by omega) e]
  ·rw [if_neg (fun x=>e x.2),if_neg (fun x=>e x.2)]
theorem ents_none {avs:Nat→AV} {s:Nat→Bool} {t:Nat}:∀ {m:Nat},(∀ i,i<m→(ops[i]?).bind (·.dst)=some t→s i=false)→look t (ents ops avs s m)=none
 | 0,_=>rfl
 | m+1,h=>by
  have ih:=ents_none (avs:=avs) (s:=s) (t:=t) (m:=m) fun i hi hd=>h i zqo hd
  unfold ents
  rw [look_app,ih,look_ent1,if_neg]
  ·rfl
  ·intro x
   rw [h m (by omega) x.2] at x
   cases x.1
theorem ents_top {avs:Nat→AV} {s:Nat→Bool} {t j:Nat}:∀ {m:Nat},j<m→(ops[j]?).bind (·.dst)=some t→s j=true→(∀ i,j<i→i<m→(ops[i]?).bind (·.dst)=some t→s i=false)→look t (ents ops avs s m)=some (avs j)
 | 0,h,_,_,_=>by omega
 | m+1,hj,hd,hs,h=>by
  unfold ents
  rw [look_app,look_ent1]
  by_cases e:j=m
  ·subst e
   rw [if_pos ⟨hs,hd⟩];rfl
  ·have ih:=ents_top (avs:=avs) (s:=s) (t:=t) (j:=j) (m:=m) zqo hd hs fun i h1 h2=>h i h1 zqo
   rw [ih,if_neg]
   ·rfl
   ·intro x
    rw [h m (by omega) (by omega) x.2] at x
    cases x.1
theorem lex_facts {md:Region.Mode}:∀ (m k:Nat) (listed:Array Bool),ops.size=k+m→listed.size=ops.size→(∀ i,i<ops.size→listed.getD i true=decide (i<k))→Region.lexFrom md ops m k listed=true →
  (∀ j oj,k≤j→ops[j]?=some oj→∀ e∈oj.after,Region.binds md e=true→e.on<j) ∧
  (∀ i j oi oj,k≤i→i<j→ops[i]?=some oi→ops[j]?=some oj→(∀ e∈oj.after,Region.binds md e=true→e.on≠i)→oi.apart ops oj=true)
 | 0,k,listed,hk,_,_,_=>⟨fun j oj h h'=>by have:=(Array.getElem?_eq_some_iff.1 h').1;omega,fun i j oi oj h h1 h2=>by have:=(Array.getElem?_eq_some_iff.1 h2).1;omega⟩
 | m+1,k,listed,hk,hsz,hl,h=>by
  simp only [Region.lexFrom,Bool.and_eq_true] at h
  obtain ⟨⟨hr,hf⟩,hrest⟩:=h
  have ih:=lex_facts m (k+1) (listed.setIfInBounds k true) (by omega) (by simpa using hsz) (fun i hi=>by
   by_cases e:k=i
   ·subst e;simp [hsz,hi]
   ·rw [show (listed.setIfInBounds k true).getD i true=listed.getD i true from by simp [Array.getD_eq_getD_getElem?,Array.getElem?_setIfInBounds_ne e],hl i hi]
    have:(i<k)↔(i<k+1):=by omega
    simp [this]) hrest
  have hmem:k∈Region.ready md ops listed:=by simpa using hr
  obtain ⟨_,o,ho,hall⟩:=mem_ready.1 hmem
  refine ⟨fun j oj hj hoj e he hb=>?_,fun i j oi oj hi hij hoi hoj hno=>?_⟩
  ·by_cases e2:j=k
   ·subst e2
    rw [ho] at hoj
    cases hoj
    have h1:=hall e he hb
    by_cases hlt:e.on<ops.size
    ·have h2:=hl e.on hlt
     have h3:listed.getD e.on false=listed.getD e.on true:=by simp [Array.getD_eq_getD_getElem?,hsz,hlt]
     rw [h3,h2] at h1
     exact of_decide_eq_true h1
    ·have:listed.getD e.on false=false:=by simp [Array.getD_eq_getD_getElem?,hsz,hlt]
     rw [this] at h1;cases h1
   ·exact ih.1 j oj zqo hoj e he hb
  ·by_cases e2:i=k
   ·subst e2
    have hjlt:=(Array.getElem?_eq_some_iff.1 hoj).1
    exact Region.free_spec hoi hf j oj hoj (by omega) (by rw [hl j hjlt];simp;omega) hno
   ·exact ih.2 i j oi oj zqo hij hoi hoj hno
theorem DL.data {l:List Oper} {σ σ':St} (h:DL P C ops l σ σ'):∃ avs:Nat→AV,σ'={ σ with t:=ents l.toArray avs (fun _=>true) l.length++σ.t } ∧
  ∀ j oj,l[j]?=some oj→∃ d,oj.dst=some d∧d<C.N∧Does P C ops oj { σ with t:=ents l.toArray avs (fun _=>true) j++σ.t } (avs j):=by
 induction h with
 | nil σ=>exact ⟨fun _=>.sc undef,rfl,fun j oj h=>by simp at h⟩
 | op o rest d av σ σ' hd hN hdo _ ih =>
  obtain ⟨avs,e1,e2⟩:=ih
  have key:∀ m,m≤rest.length→ents (o::rest).toArray (fun j=>if j=0 then av else avs (j-1)) (fun _=>true) (m+1)=ents rest.toArray avs (fun _=>true) m++[(d,av)]:=by
   intro m
   induction m with
   | zero=>intro _;simp [ents,ent1,hd]
   | succ m ihm =>
    intro hm
    rw [ents,ihm (by omega),ents]
    simp
  refine ⟨fun j=>if j=0 then av else avs (j-1),?_,fun j oj hj=>?_⟩
  ·rw [e1,List.length_cons,key _ (Nat.le_refl _)]
   simp [St.put]
  ·cases j with
   | zero=>cases hj;exact ⟨d,hd,of_blt hN,by simpa [ents] using hdo⟩
   | succ j =>
    have hj':rest[j]?=some oj:=by simpa using hj
    obtain ⟨d',q1,q2,q3⟩:=e2 j oj hj'
    refine ⟨d',q1,q2,?_⟩
    rw [key j (by have:=(List.getElem?_eq_some_iff.1 hj').1;omega)]
    simpa [St.put] using q3
theorem rep_getD(n j:Nat):(Array.replicate n false).getD j false=false:=by
 unfold Array.getD
 split<;>simp
theorem countP_lt {p q:Nat→Bool} (h:∀ i,q i=true→p i=true):∀ {n j:Nat},j<n→p j=true→q j=false→(List.range n).countP q<(List.range n).countP p
 | 0,_,hj,_,_=>by omega
 | n+1,j,hj,hp,hq=>by
  rw [List.range_succ,List.countP_append,List.countP_append]
  have hle:(List.range n).countP q≤(List.range n).countP p:=List.countP_mono_left fun x _ hx=>h x hx
  by_cases e:j=n
  ·subst e
   have a1:[j].countP q=0:=by simp [hq]
   have a2:[j].countP p=1:=by simp [hp]
   omega
  ·have:=countP_lt h (n:=n) (j:=j) zqo hp hq
   have h1:[n].countP q≤[n].countP p:=List.countP_mono_left fun x _ hx=>h x hx
   omega
def WA (P:Program)(C:Cx)(ops:Array Oper)(σ:St)(Q:Exit→St→Prop):Prop:=∀ G a w,Ok C σ G a w→wpAny P .any ops (Post C Q) ops.size (Array.replicate ops.size false) a { w with drawn:=w.drawn+1 }
theorem W.of_wa {id:Nat} (hm:P.follows .mixedOrders=true)(h:WA P C ops σ Q):W P C (.region id ops true) σ Q:=fun G a w ok=>wp_region_any hm (h G a w ok)
theorem WA.draw {l:List Oper} (hB:Region.lexB .any l.toArray=true) (h:DL P C l.toArray l σ σ') (k:Q .normal σ'):WA P C l.toArray σ Q:=by
 intro G a w ok
 obtain ⟨avs,e1,e2⟩:=h.data
 simp only [Region.lexB,Bool.and_eq_true] at hB
 obtain ⟨FA,FB⟩:=lex_facts (ops:=l.toArray) l.toArray.size 0 (Array.replicate l.toArray.size false) (by simp) (by simp) (fun i hi=>by simp [Array.getD_eq_getD_getElem?,hi] at hi ⊢;simp [hi]) hB.2
 have sz:l.toArray.size=l.length:=by simp
 let KS:Array Bool→St:=fun listed=>{ σ with t:=ents l.toArray avs (fun i=>listed.getD i false) l.length++σ.t }
 have key:∀ (fuel:Nat) (listed:Array Bool) (G:Gh) (a:Act) (w:World),listed.size=l.length→(∀ j oj,l[j]?=some oj→listed.getD j false=true→∀ e∈oj.after,Region.binds .any e=true→listed.getD e.on false=true) →
   (List.range l.length).countP (fun i=>!listed.getD i false)≤fuel→Ok C (KS listed) G a w→wpAny P .any l.toArray (Post C Q) fuel listed a w:=by
  intro fuel
  have done:∀ (listed:Array Bool) (G:Gh) (a:Act) (w:World),listed.size=l.length→Region.ready .any l.toArray listed=[]→Ok C (KS listed) G a w→Post C Q .normal a w:=by
   intro listed G a w hsz hr ok
   have hall:∀ n i,i < n→i < l.length→listed.getD i false=true:=by
    intro n
    induction n with
    | zero=>intro i h;omega
    | succ n ih =>
     intro i hi hlt
     by_cases e:i < n
     ·exact ih i e hlt
     ·have hin:i=n:=by omega
      subst hin
      cases hli:listed.getD i false with
      | true=>rfl
      | false =>
       have hoi:l.toArray[i]?=some l[i]:=by simp [hlt]
       have:i∈Region.ready .any l.toArray listed:=mem_ready.2 ⟨by
        have:listed.getD i true=listed.getD i false:=by simp [Array.getD_eq_getD_getElem?,hsz,hlt]
        rw [this];exact hli,l[i],hoi,fun e he hb=>ih e.on (FA i l[i] (Nat.zero_le _) hoi e he hb) (by have:=FA i l[i] (Nat.zero_le _) hoi e he hb;omega)⟩
       rw [hr] at this;cases this
   refine ⟨σ',G,k,ok.congr_ (fun t=>?_) (by rw [e1]) (by rw [e1])⟩
   rw [e1]
   show look t (_++_)=look t (_++_)
   rw [look_app,look_app,ents_agree (s':=fun i=>listed.getD i false) fun i hi _=>(hall (i+1) i (by omega) hi).symm]
  induction fuel with
  | zero =>
   intro listed G a w hsz hcl hf ok
   have hr:Region.ready .any l.toArray listed=[]:=by
    apply List.eq_nil_iff_forall_not_mem.2
    intro j hj
    obtain ⟨h1,oj,h2,_⟩:=mem_ready.1 hj
    have hlt:j < l.length:=by have:=(Array.getElem?_eq_some_iff.1 h2).1;omega
    have h3:listed.getD j false=false:=by
     have:listed.getD j false=listed.getD j true:=by simp [Array.getD_eq_getD_getElem?,hsz,hlt]
     rw [this];exact h1
    have:=List.countP_eq_zero.1 (Nat.le_zero.1 hf) j (List.mem_range.2 hlt)
    simp [h3] at this
   exact ⟨hr,done listed G a w hsz hr ok⟩
  | succ fuel ih =>
   intro listed G a w hsz hcl hf ok
   refine ⟨fun hr=>done listed G a w hsz hr ok,fun j hj=>?_⟩
   obtain ⟨h1,oj,h2,h4⟩:=mem_ready.1 hj
   have hlt:j < l.length:=by have:=(Array.getElem?_eq_some_iff.1 h2).1;omega
   have h3:listed.getD j false=false:=by
    have:listed.getD j false=listed.getD j true:=by simp [Array.getD_eq_getD_getElem?,hsz,hlt]
    rw [this];exact h1
   have hlj:l[j]?=some oj:=by simpa using h2
   obtain ⟨d,hd,hdN,hdoes⟩:=e2 j oj hlj
   have hlook:∀ t∈oj.looksAt l.toArray,∀ i,i < l.length→(l.toArray[i]?).bind (·.dst)=some t→listed.getD i false=decide (i < j):=by
    intro t ht i hi hdi
    have hoi:l.toArray[i]?=some l[i]:=by simp [hi]
    rw [hoi] at hdi
    have hdi:l[i].dst=some t:=hdi
    rcases Nat.lt_trichotomy i j with hij|hij|hij
    ·rw [decide_eq_true hij]
     by_cases hno:∃ e,e∈oj.after∧Region.binds .any e=true∧e.on=i
     ·obtain ⟨e,he,hb,rfl⟩:=hno
      exact h4 e he hb
     ·exact absurd ht ((Oper.apart_spec (FB i j _ _ (Nat.zero_le _) hij hoi h2 fun e he hb h=>hno ⟨e,he,hb,h⟩)).1 t hdi)
    ·subst hij;rw [h3];simp
    ·rw [decide_eq_false (by omega)]
     cases hli:listed.getD i false with
     | false=>rfl
     | true =>
      by_cases hno:∃ e,e∈(l[i]).after∧Region.binds .any e=true∧e.on=j
      ·obtain ⟨e,he,hb,he2⟩:=hno
       have:=hcl i _ (by simp [hi]) hli e he hb
       rw [he2,h3] at this;cases this
      ·exact absurd ht ((Oper.apart_spec (FB j i _ _ (Nat.zero_le _) hij h2 hoi fun e he hb h=>hno ⟨e,he,hb,h⟩)).2.2 t hdi)
   have hents:∀ t,look t (ents l.toArray avs (fun _=>true) j)=look t (ents l.toArray avs (fun i=>decide (i < j)) l.length):=by
    intro t
    have:∀ m,j≤m→look t (ents l.toArray avs (fun i=>decide (i < j)) m)=look t (ents l.toArray avs (fun i=>decide (i < j)) j):=by
     intro m
     induction m with
     | zero=>intro h;rw [Nat.le_zero.1 h]
     | succ m ihm =>
      intro h
      by_cases e:j=m+1
      ·rw [e]
      ·rw [ents,look_app,look_ent1,if_neg (fun x=>by have:=of_decide_eq_true x.1;omega),ihm (by omega)];rfl
    rw [this l.length (by omega)]
    exact ents_agree fun i hi _=>(decide_eq_true hi).symm
   have hdo:Does P C l.toArray oj (KS listed) (avs j):=hdoes.congr_ (fun t ht=>by
    show look t (_++_)=look t (_++_)
    rw [look_app,look_app,hents t,ents_agree fun i hi hdi=>(hlook t ht i hi hdi).symm]) rfl rfl
   have next:∀ (v:Value) (G':Gh) (w':World),Ok C (KS listed) G' a w'→R G' (avs j) v→Bd σ.nk (avs j)→wpAny P .any l.toArray (Post C Q) fuel (listed.setIfInBounds j true) (a.put oj.dst v) w':=by
    intro v G' w' ok' hr hb
    have ok2:=ok'.set (d:=some d) hr hb fun x hx=>by cases hx;exact hdN
    rw [hd]
    refine ih (listed.setIfInBounds j true) G' _ w' (by simpa using hsz) (fun i oi hi hli e he hb=>?_) ?_ (ok2.congr_ (fun t=>?_) rfl rfl)
    ·have mono:∀ q,listed.getD q false=true→(listed.setIfInBounds j true).getD q false=true:=fun q hq=>by
      by_cases e:j=q
      ·subst e;rw [hq] at h3;cases h3
      ·simpa [Array.getD_eq_getD_getElem?,Array.getElem?_setIfInBounds_ne e] using hq
     by_cases e2:j=i
     ·subst e2
      rw [hlj] at hi;cases hi
      exact mono _ (h4 e he hb)
     ·refine mono _ (hcl i oi hi ?_ e he hb)
      simpa [Array.getD_eq_getD_getElem?,Array.getElem?_setIfInBounds_ne e2] using hli
    ·have hlt2:(List.range l.length).countP (fun i=>!(listed.setIfInBounds j true).getD i false) < (List.range l.length).countP (fun i=>!listed.getD i false):=by
      exact countP_lt (fun i hi=>by
       by_cases e:j=i
       ·subst e;simp [Array.getD_eq_getD_getElem?,hsz,hlt] at hi
       ·simpa [Array.getD_eq_getD_getElem?,Array.getElem?_setIfInBounds_ne e] using hi) hlt (by simp [h3]) (by simp [Array.getD_eq_getD_getElem?,hsz,hlt])
     omega
    ·show look t (_++_)=look t ((d,avs j)::(_++_))
     by_cases et:t=d
     ·subst et
      rw [look_set_same,look_app,ents_top (j:=j) hlt (by rw [h2];exact hd) (by simp [Array.getD_eq_getD_getElem?,hsz,hlt]) fun i hij hi hdi=>?_]
      ·rfl
      ·have hoi:l.toArray[i]?=some l[i]:=by simp [hi]
       rw [hoi] at hdi
       have hdi:l[i].dst=some t:=hdi
       have hne:j≠i:=by omega
       cases hli:listed.getD i false with
       | false=>simpa [Array.getD_eq_getD_getElem?,Array.getElem?_setIfInBounds_ne hne] using hli
       | true =>
        by_cases hno:∃ e,e∈(l[i]).after∧Region.binds .any e=true∧e.on=j
        ·obtain ⟨e,he,hb,he2⟩:=hno
         have:=hcl i _ (by simp [hi]) hli e he hb
         rw [he2,h3] at this;cases this
        ·exact absurd hdi ((Oper.apart_spec (FB j i _ _ (Nat.zero_le _) hij h2 hoi fun e he hb h=>hno ⟨e,he,hb,h⟩)).2.1 t hd)
     ·rw [look_set_other et,look_app,look_app]
      congr 1
      refine ents_agree fun i hi hdi=>?_
      by_cases e2:j=i
      ·subst e2
       rw [h2] at hdi
       have:oj.dst=some t:=hdi
       rw [hd] at this
       exact absurd (by injection this with h;exact h.symm) et
      ·simp [Array.getD_eq_getD_getElem?,Array.getElem?_setIfInBounds_ne e2]
   unfold wpOp
   simp only [h2]
   have okO:=ok.only_ (oj.looksAt l.toArray)
   rcases hdo with ⟨hg,hv⟩|⟨hg,hv⟩
   ·rw [if_pos (guardK_wanted okO hg)]
    exact .inl (hv G a w okO _ _ fun v G' w' hk hr hb=>next v G' w' (hk _ _ ok) hr hb)
   ·rw [if_neg (by rw [guardK_wanted okO hg];simp)]
    exact next undef G w ok (by rw [hv];exact .pu _ _ (.sc _)) (by rw [hv];exact .sc _)
 refine key _ (Array.replicate l.toArray.size false) G a _ (by simp) (fun j oj _ h=>?_) ?_ (ok.drew.congr_ (fun t=>?_) rfl rfl)
 ·rw [rep_getD] at h;cases h
 ·rw [sz]
  exact Nat.le_trans List.countP_le_length (by simp)
 ·show look t (_++_)=_
  rw [look_app,ents_none fun i hi _=>?_]
  ·rfl
  ·exact rep_getD _ _
theorem W.draw {id:Nat} {l:List Oper} (hm:P.follows .mixedOrders=true)(hB:Region.lexB .any l.toArray=true)(h:DL P C l.toArray l σ σ')(k:Q .normal σ'):W P C (.region id l.toArray true) σ Q:=W.of_wa hm (WA.draw hB h k)
end
end
section
open Go.RowKit
def needs(ops:Array Oper)(i:Nat):Nat→Nat→Bool
 | 0,_=>false
 | f+1,j =>
  match ops[j]? with
  | some o=>o.after.any fun e=>Region.binds .any e && (Nat.beq e.on i|| needs ops i f e.on)
  | none=>false
def behindB(ops:Array Oper)(mem:List Bool)(j:Nat):Bool:=(List.range j).all fun i=>!(mem.getD i false)|| needs ops i ops.size j
def chainB(ops:Array Oper)(mem:List Bool):Bool:=(List.range ops.size).all fun j=>!(mem.getD j false)|| behindB ops mem j
section
variable {P:Program} {C:Cx} {σ σ':St} {G G':Gh} {a:Act} {w w':World} {ops:Array Oper} {Q:Exit→St→Prop}
theorem needs_listed {listed:Array Bool} (hcl:∀ j oj,ops[j]?=some oj→listed.getD j false=true→∀ e∈oj.after,Region.binds .any e=true→listed.getD e.on false=true) {i:Nat}:∀ (f j:Nat),needs ops i f j=true→listed.getD j false=true→listed.getD i false=true
 | 0,j,h,_=>by cases h
 | f+1,j,h,hl=>by
  unfold needs at h
  cases ho:ops[j]? with
  | none=>simp [ho]at h
  | some o =>
   simp only [ho]at h
   obtain⟨e,he,h2⟩:=Array.any_eq_true'.1 h
   simp only [Bool.and_eq_true,Bool.or_eq_true]at h2
   have:=hcl j o ho hl e he h2.1
   rcases h2.2 with h3|h3
   ·rw [← Nat.eq_of_beq_eq_true h3];exact this
   ·exact needs_listed hcl f e.on h3 this
theorem needs_ready {listed:Array Bool} (hcl:∀ j oj,ops[j]?=some oj→listed.getD j false=true→∀ e∈oj.after,Region.binds .any e=true→listed.getD e.on false=true) {i j:Nat} {oj:Oper} (hj:ops[j]?=some oj)
  (hr:∀ e∈oj.after,Region.binds .any e=true→listed.getD e.on false=true):∀ (f:Nat),needs ops i f j=true→listed.getD i false=true
 | 0,h=>by cases h
 | f+1,h=>by
  unfold needs at h
  simp only [hj]at h
  obtain⟨e,he,h2⟩:=Array.any_eq_true'.1 h
  simp only [Bool.and_eq_true,Bool.or_eq_true]at h2
  have:=hr e he h2.1
  rcases h2.2 with h3|h3
  ·rw [← Nat.eq_of_beq_eq_true h3];exact this
  ·exact needs_listed hcl f e.on h3 this
theorem Ok.few (ok:Ok C σ G a w) {t:List (Nat×AV)} {M:List (Nat×AO)} {nk:Nat} (ht:∀ i av,look i t=some av→look i σ.t=some av∧av.inn nk=true) (hM:∀ k o,look k M=some o→look k σ.M=some o∧o.inn nk=true∧k<nk) (hnp:C.np≤nk):Ok C ⟨t,M,nk⟩ G a w :=
 ⟨ok.sz,⟨ok.df.1,hnp,ok.df.2.2⟩,fun i av x=>⟨(ok.tm i av (ht i av x).1).1,inn_bd (ht i av x).2,(ok.tm i av (ht i av x).1).2.2⟩,ok.bel,ok.fw,ok.f0,ok.f1,
  fun k o x=>⟨(hM k o x).2.2,by
   cases o with
   | box T cells=>exact fun i av y=>in1_bd (List.all_eq_true.1 (hM k _ x).2.1 av (List.mem_of_getElem? y))
   | rof T n rows hi hj y=>exact in1_bd (hM k _ x).2.1
   | rwo T n rows hi hj y=>exact in1_bd (hM k _ x).2.1
   | row T n rows=>trivial
   | rwn T n rows=>trivial
   | bld T e l=>trivial
   | opq q=>trivial,(ok.ob k o (hM k o x).1).2.2⟩,
  fun k o x p=>ok.my k o x (hM k o p).1,fun k o k' o' x p q=>ok.dj k o k' o' x (hM k o p).1 (hM k' o' q).1,fun k o x p u q=>ok.dF k o x p u (hM k o q).1⟩
def tsInn (nk:Nat):List (Nat×AV)→Bool
 | []=>true
 | x::r=>x.2.inn nk && tsInn nk r
def msInn (nk:Nat):List (Nat×AO)→Bool
 | []=>true
 | x::r=>x.2.inn nk && Nat.blt x.1 nk && msInn nk r
def msSub:List (Nat×AO)→List (Nat×AO)→Prop
 | [],_=>True
 | x::r,M=>look x.1 M=some x.2∧msSub r M
theorem tsInn_at {nk:Nat}:∀ {t:List (Nat×AV)},tsInn nk t=true→∀ i av,look i t=some av→av.inn nk=true
 | [],_,i,av,h=>by cases h
 | x::r,ht,i,av,h=>by
  simp only [tsInn,Bool.and_eq_true]at ht
  by_cases e:i=x.1
  ·subst e;rw [look_set_same]at h;cases h;exact ht.1
  ·rw [look_set_other e]at h;exact tsInn_at ht.2 i av h
theorem msInn_at {nk:Nat}:∀ {t:List (Nat×AO)},msInn nk t=true→∀ i o,look i t=some o→o.inn nk=true∧i<nk
 | [],_,i,o,h=>by cases h
 | x::r,ht,i,o,h=>by
  simp only [msInn,Bool.and_eq_true]at ht
  by_cases e:i=x.1
  ·subst e;rw [look_set_same]at h;cases h;exact⟨ht.1.1,of_blt ht.1.2⟩
  ·rw [look_set_other e]at h;exact msInn_at ht.2 i o h
theorem msSub_at {M:List (Nat×AO)}:∀ {t:List (Nat×AO)},msSub t M→∀ i o,look i t=some o→look i M=some o
 | [],_,i,o,h=>by cases h
 | x::r,ht,i,o,h=>by
  by_cases e:i=x.1
  ·subst e;rw [look_set_same]at h;cases h;exact ht.1
  ·rw [look_set_other e]at h;exact msSub_at ht.2 i o h
def DoesV (P:Program) (C:Cx) (ops:Array Oper) (o:Oper) (t:List (Nat×AV)) (Mc:List (Nat×AO)) (nk:Nat) (av:AV):Prop :=
 msInn nk Mc=true∧tsInn nk (onlyT t (o.looksAt ops))=true∧((guardK ops o ⟨onlyT t (o.looksAt ops),Mc,nk⟩=some true∧WV P C o ⟨onlyT t (o.looksAt ops),Mc,nk⟩ av)∨(guardK ops o ⟨onlyT t (o.looksAt ops),Mc,nk⟩=some false∧av=.sc undef))
def DoesM (P:Program) (C:Cx) (ops:Array Oper) (o:Oper) (σ:St) (d:Tmp) (av:AV) (M':List (Nat×AO)) (nk':Nat):Prop :=
 o.guard=none∧∀ t,(∀ q∈o.looksAt ops,look q t=look q σ.t)→WO P C o ⟨t,σ.M,σ.nk⟩ ⟨(d,av)::t,M',nk'⟩
inductive DM (P:Program) (C:Cx) (ops:Array Oper) (mem:List Bool) (Mc:List (Nat×AO)) (nk0:Nat):Nat→List Oper→St→St→Prop
 | nil (k:Nat) (σ:St):DM P C ops mem Mc nk0 k [] σ σ
 | val (k:Nat) (o:Oper) (rest:List Oper) (d:Tmp) (av:AV) (nk:Nat) (σ σ':St):mem.getD k false=false→o.dst=some d→Nat.blt d C.N=true→(nk=nk0∨(nk=σ.nk∧behindB ops mem k=true))→DoesV P C ops o σ.t Mc nk av →
   DM P C ops mem Mc nk0 (k+1) rest (σ.put d av) σ'→DM P C ops mem Mc nk0 k (o::rest) σ σ'
 | mem (k:Nat) (o:Oper) (rest:List Oper) (d:Tmp) (av:AV) (M':List (Nat×AO)) (nk':Nat) (σ σ':St):mem.getD k false=true→o.dst=some d→Nat.ble σ.nk nk'=true→msSub Mc M'→DoesM P C ops o σ d av M' nk' →
   DM P C ops mem Mc nk0 (k+1) rest ⟨(d,av)::σ.t,M',nk'⟩ σ'→DM P C ops mem Mc nk0 k (o::rest) σ σ'
def cur(mem s:Nat→Bool):Nat→Nat
 | 0=>0
 | m+1=>if mem m=true∧s m=true then m+1 else cur mem s m
theorem cur_congr {mem s s':Nat→Bool}:∀ {m:Nat},(∀ i,i<m→mem i=true→s i=s' i)→cur mem s m=cur mem s' m
 | 0,_=>rfl
 | m+1,h=>by
  unfold cur
  rw [cur_congr (m:=m) fun i hi=>h i (by omega)]
  by_cases e:mem m=true
  ·rw [h m (by omega) e]
  ·rw [if_neg (fun x=>e x.1),if_neg (fun x=>e x.1)]
theorem cur_le {mem s:Nat→Bool}:∀ m:Nat,cur mem s m≤m
 | 0=>Nat.le_refl _
 | m+1=>by
  unfold cur
  split
  ·exact Nat.le_refl _
  ·exact Nat.le_succ_of_le (cur_le m)
theorem cur_at {α:Type} {mem s:Nat→Bool} {f:Nat→α} {n j:Nat} (hc:∀ i,i<n→mem i=false→f (i+1)=f i) (hs:∀ i,i<n→mem i=true→s i=decide (i<j)):∀ m,m≤n→f (cur mem s m)=f (min m j)
 | 0,_=>by simp [cur]
 | m+1,h=>by
  have ih:=cur_at hc hs m zqo
  unfold cur
  by_cases e:mem m=true
  ·have:=hs m zqo e
   by_cases hm:m<j
   ·rw [if_pos ⟨e,by rw [this];simpa using hm⟩,show min (m+1) j=m+1 by omega]
   ·rw [if_neg (by rw [this];simp;intro _;omega),ih,show min (m+1) j=min m j by omega]
  ·rw [if_neg (fun x=>e x.1),ih]
   by_cases hm:m<j
   ·rw [show min (m+1) j=m+1 by omega,show min m j=m by omega,hc m (by omega) (by simpa using e)]
   ·rw [show min (m+1) j=min m j by omega]
theorem cur_ge {mem s:Nat→Bool} {f:Nat→Nat} {n j:Nat} (hc:∀ i,i<n→mem i=false→f (i+1)=f i) (hmono:∀ i,i<n→f i≤f (i+1)) (hs:∀ i,i<n→i<j→mem i=true→s i=true):∀ m,m≤n→f (min m j)≤f (cur mem s m)
 | 0,_=>by simp [cur]
 | m+1,h=>by
  have ih:=cur_ge hc hmono hs m zqo
  unfold cur
  by_cases e:mem m=true∧s m=true
  ·rw [if_pos e]
   by_cases hm:m<j
   ·rw [show min (m+1) j=m+1 by omega]
    exact Nat.le_refl _
   ·rw [show min (m+1) j=j by omega]
    have:∀ b a,a≤b→b≤n→f a≤f b:=by
     intro b
     induction b with
     | zero=>intro a h _;rw [Nat.le_zero.1 h];exact Nat.le_refl _
     | succ b ihb =>
      intro a hab hbn
      by_cases e2:a=b+1
      ·rw [e2];exact Nat.le_refl _
      ·exact Nat.le_trans (ihb a zqo zqo) (hmono b zqo)
    exact this (m+1) j zqo h
  ·rw [if_neg e]
   by_cases hm:m<j
   ·have hmf:mem m=false:=by
     cases hq:mem m with
     | false=>rfl
     | true=>exact absurd ⟨hq,hs m zqo hm hq⟩ e
    rw [show min (m+1) j=m+1 by omega,hc m (by omega) hmf]
    rw [show min m j=m by omega] at ih
    exact ih
   ·rw [show min (m+1) j=min m j by omega];exact ih
end
end
section
open Go.RowKit
theorem fold_put:∀ (v:List Value)(off:Nat)(cells:Array Value),off+v.length≤cells.size→(v.zipIdx.foldl (fun cs (c,j)=>cs.setIfInBounds (off+j) c) cells).toList=putL off v cells.toList:=by
 have key:∀ (v:List Value)(off s:Nat)(cells:Array Value),off+s+v.length≤cells.size→(v.zipIdx s|>.foldl (fun cs (x:Value×Nat)=>cs.setIfInBounds (off+x.2) x.1) cells).toList=putL (off+s) v cells.toList:=by
  intro v
  induction v with
  | nil =>
   intro off s cells h
   rw [putL_eq _ _ _ (by simpa using h)]
   simp
  | cons x r ih =>
   intro off s cells h
   rw [List.zipIdx_cons,List.foldl_cons,ih off (s+1) _ (by simp at h ⊢;omega)]
   have hlen:off+s+(r.length+1)≤cells.size:=by simpa [Nat.add_assoc] using h
   have hl:off+s<cells.toList.length:=by simp;omega
   apply List.ext_getElem?
   intro i
   rw [putL_at (by simp;omega),putL_at (by simp;omega),Array.toList_setIfInBounds,List.length_cons]
   by_cases h2:i=off+s
   ·subst h2
    rw [if_neg (by omega),if_pos (by omega),List.getElem?_set_self hl,Nat.sub_self];rfl
   ·rw [List.getElem?_set_ne (fun e=>h2 e.symm)]
    by_cases h3:off+s+1≤i∧i<off+s+(r.length+1)
    ·rw [if_pos (by omega),if_pos (by omega),show i-(off+s)=(i-(off+(s+1)))+1 by omega,List.getElem?_cons_succ]
    ·rw [if_neg (by omega),if_neg (by omega)]
 intro v off cells h
 have:=key v off 0 cells (by simpa using h)
 simpa using this
theorem putL_head {α:Type} (l m rest:List α)(off:Nat)(h:off=l.length)(done:List α)(hl:m.length≤rest.length):putL off m (l++rest)=l++m++rest.drop m.length:=by
 subst h
 rw [putL_eq _ _ _ (by simp;omega),List.take_left,List.drop_append]
 simp
theorem fill_rows {size:Nat}:∀ (vs:List Value) (q:Nat) (done rest:List Value),done.length=q*size→rest.length=vs.length*size→(∀ v∈vs,v.cells.size=size) →
  Instr.fill (fun i=>some (i*size,size)) (done++rest).toArray (number q vs)=some (done++(vs.map fun v=>v.cells.toList).flatten).toArray
 | [],q,done,rest,hd,hr,_=>by
  have:rest=[]:=List.eq_nil_of_length_eq_zero (by simpa using hr)
  subst this
  simp [number,Instr.fill]
 | v::vs,q,done,rest,hd,hr,hv=>by
  have h1:v.cells.size=size:=hv v (by simp)
  have hle:size≤rest.length:=by rw [hr,List.length_cons,Nat.succ_mul];omega
  have hb:(v.cells.size≠size|| q*size+v.cells.size > (done++rest).toArray.size)=false:=by
   rw [h1];simp [hd];omega
  have hf:=fold_put v.cells.toList (q*size) (done++rest).toArray (by simp [h1,hd];omega)
  have e:(v.cells.zipIdx.foldl (fun cs (c,j)=>cs.setIfInBounds (q*size+j) c) (done++rest).toArray)=((done++v.cells.toList)++rest.drop size).toArray:=by
   apply Array.ext'
   rw [← Array.foldl_toList,Array.toList_zipIdx,hf]
   have:=putL_head done v.cells.toList rest (q*size) hd.symm done (by simpa [h1] using hle)
   simp only [List.toList_toArray] at this ⊢
   rw [this]
   simp [h1]
  have ih:=fill_rows vs (q+1) (done++v.cells.toList) (rest.drop size) (by simp [hd,h1,Nat.succ_mul]) (by simp [hr,Nat.succ_mul]) fun x hx=>hv x (by simp [hx])
  show (match some (q*size,size) with|none=>none|some (off,sz)=>if v.cells.size≠sz|| off+v.cells.size > (done++rest).toArray.size then none else Instr.fill _ _ (number (q+1) vs))=_
  simp only
  rw [hb]
  simp only [Bool.false_eq_true,if_false]
  rw [e,ih]
  simp
section
variable {P:Program} {C:Cx} {σ σ':St} {G G':Gh} {a:Act} {w w':World} {o:Oper} {d:Tmp}
theorem run_buildS {T e n m:Nat} {z:Value} {vs:List Value} {parts:Array (Nat×Value)} (hT:P.underlying T=some (.slice e)) (hn:sizeB P e=some n) (hz:(P.info? e).bind (·.zero)=some z) (hp:parts.toList=number 0 vs) (hm:vs.length=m) (hv:∀ v∈vs,v.cells.size=n) (hb:m*n≤16777216) (w:World) :
  (Instr.buildSlice T m parts).run P w=.ok (.slice (some ⟨w.heap.size,0,none⟩) m m) (w.alloc (.cells (vs.map fun v=>v.cells.toList).flatten.toArray e)):=by
 cases hi:P.info? e with
 | none=>simp [hi] at hz
 | some i =>
  simp [hi] at hz
  have hfill:∀ zero:Array Value,Instr.fill (fun i=>some (i*n,n)) ((Array.range (m*n)).map (zero[· % zero.size]!)) parts.toList=some (vs.map fun v=>v.cells.toList).flatten.toArray:=fun zero=>by
   have:=fill_rows (size:=n) vs 0 [] ((Array.range (m*n)).map (zero[· % zero.size]!)).toList (by simp) (by simp [hm]) hv
   rw [hp]
   have e0:((Array.range (m*n)).map (zero[· % zero.size]!))=([]++((Array.range (m*n)).map (zero[· % zero.size]!)).toList).toArray:=by rw [List.nil_append,Array.toArray_toList]
   rw [e0];exact this
  have h2:¬ (m*n > 2 ^ 24):=by simp;omega
  unfold Instr.buildSlice
  by_cases h0:m*n=0
  ·simp only [Sem.run_bind,run_underlying hT,Result.andThen_ok,run_sizeB hn,if_neg h2,if_pos h0,Sem.run_pure,hfill,newRow,run_newObj]
   rfl
  ·simp only [Sem.run_bind,run_underlying hT,Result.andThen_ok,run_sizeB hn,if_neg h2,if_neg h0,Sem.run_pure,zeroValue,typeInfo,run_program,hi,hz,hfill,newRow,run_newObj]
   rfl
def rowsB(n:Nat)(l:List AV):Bool:=l.all fun av=>av.cellB && Nat.beq av.cells.length n && av.cells.all AV.oneB && av.cells.all AV.pu0
theorem number_map {α β:Type} (f:α→β):∀ (n:Nat)(l:List α),(number n l).map (fun x=>(x.1,f x.2))=number n (l.map f)
 | _,[]=>rfl
 | n,x::r=>by simp [number,number_map f (n+1) r]
def numB {α:Type}:Nat→List (Nat×α)→Bool
 | _,[]=>true
 | n,x::r=>Nat.beq x.1 n && numB (n+1) r
theorem numB_eq {α:Type}:∀ (n:Nat)(l:List (Nat×α)),numB n l=true→l=number n (l.map (·.2))
 | _,[],_=>rfl
 | n,x::r,h=>by
  simp only [numB,Bool.and_eq_true] at h
  rw [List.map_cons,number,← numB_eq (n+1) r h.2,← Nat.eq_of_beq_eq_true h.1]
theorem WO.build0 {T e n m q:Nat} {z:Value} {parts:Array (Nat×Operand)} {xs:List Operand} {avs:List AV} {rows:List (List AV)} (ho:o.op=.buildSlice T m parts) (hT:P.underlying T=some (.slice e)) (hn:sizeB P e=some n) (hz:(P.info? e).bind (·.zero)=some z)
  (hp:parts.toList=number 0 xs) (hm:xs.length=m) (hb:Nat.ble (m*n) 16777216=true) (hb1:Nat.ble m 16777216=true) (hds:o.dst=some d) (hd:Nat.blt d C.N=true) (hx:σ.evs xs=some avs) (hck:rowsB n avs=true) (hr:avs.map AV.cells=rows) (hq:σ.nk=q) :
  WO P C o σ ((σ.new (.row e n rows)).put d (.sl q)):=by
 intro G a w ok N Q' hN
 obtain ⟨e1,e2⟩:=ok.evl hx
 have hck':∀ av∈avs,av.cellB=true∧av.cells.length=n∧av.cells.all AV.oneB=true∧av.cells.all AV.pu0=true:=fun av hav=>by
  have:=List.all_eq_true.1 hck av hav
  simp only [Bool.and_eq_true] at this
  exact ⟨this.1.1.1,Nat.eq_of_beq_eq_true this.1.1.2,this.1.2,this.2⟩
 have hv:∀ v∈xs.map a.eval,v.cells.size=n:=fun v hv=>by
  obtain ⟨i,hi,rfl⟩:=List.getElem_of_mem hv
  have hi2:i<avs.length:=by omega
  obtain ⟨c1,c2,_⟩:=hck' _ (List.getElem_mem hi2)
  rw [(cells_of (e2 i _ _ (List.getElem?_eq_getElem hi2) (List.getElem?_eq_getElem hi)) c1).1,c2]
 have hlm:(xs.map a.eval).length=m:=by simpa using hm
 have hrun:=run_buildS (P:=P) (T:=T) (e:=e) (n:=n) (m:=m) (vs:=xs.map a.eval) (parts:=parts.map fun (i,x)=>(i,a.eval x)) hT hn hz (by
  have:=number_map a.eval 0 xs
  rw [← this,← hp];simp) hlm hv (Nat.le_of_ble_eq_true hb) w
 have hvs:((xs.map a.eval).map fun v=>v.cells.toList).length=rows.length:=by rw [← hr];simp only [List.length_map] at e1 ⊢;exact e1
 have hown:=own_built w e n m ((xs.map a.eval).map fun v=>v.cells.toList).flatten.toArray (by unfold maxLen;have:=Nat.le_of_ble_eq_true hb1;omega) (by
  rw [List.size_toArray,flatten_len (size:=n) (fun r hr=>by obtain ⟨v,hv',rfl⟩:=List.mem_map.1 hr;simpa using hv v hv')]
  simp [hm])
 have honeR:∀ r∈(xs.map a.eval).map fun v=>v.cells.toList,∀ u∈r,u.oneCell'=true :=
  (fun r hr' u hu=>by
   obtain ⟨v,hv',rfl⟩:=List.mem_map.1 hr'
   obtain ⟨i,hi,rfl⟩:=List.getElem_of_mem hv'
   have hi2:i<avs.length:=by omega
   obtain ⟨c1,c2,c3,_⟩:=hck' _ (List.getElem_mem hi2)
   obtain ⟨d1,d2⟩:=cells_of (e2 i _ _ (List.getElem?_eq_getElem hi2) (List.getElem?_eq_getElem hi)) c1
   obtain ⟨j,hj,rfl⟩:=List.getElem_of_mem hu
   have hj2:j<(avs[i]).cells.length:=by rw [← d1];simpa using hj
   exact oneB_of (d2 j _ _ (List.getElem?_eq_getElem hj2) (by simp at hj;simp [hj])) (List.all_eq_true.1 c3 _ (List.getElem_mem hj2)))
 have hrel:∀ (i:Nat) r r',rows[i]?=some r→((xs.map a.eval).map fun v=>v.cells.toList)[i]?=some r'→RL G.F r r' :=
  (fun i r r' h1 h2=>by
   rw [← hr,List.getElem?_map] at h1
   rw [List.getElem?_map] at h2
   cases q1:avs[i]? with
   | none=>simp [q1] at h1
   | some av =>
    cases q2:(xs.map a.eval)[i]? with
    | none=>simp [q2] at h2
    | some v =>
     simp [q1] at h1
     simp only [q2,Option.map_some,Option.some.injEq] at h2
     subst h1 h2
     obtain ⟨c1,c2,_,c4⟩:=hck' av (List.mem_of_getElem? q1)
     obtain ⟨d1,d2⟩:=cells_of (e2 i av v q1 q2) c1
     exact ⟨by simpa using d1,fun j x u hx hu=>(pu0_bd (List.all_eq_true.1 c4 x (List.mem_of_getElem? hx)) 0).rp (d2 j x u hx (by simpa using hu))⟩)
 have hsl:(.slice (some ⟨w.heap.size,0,none⟩) m m:Value).ownBlock=some w.heap.size:=rfl
 have ok':=ok.newObj (w':=w.alloc (.cells ((xs.map a.eval).map fun v=>v.cells.toList).flatten.toArray e)) (S:=fun _=>False) (b:=w.heap.size) (n:=n) (h:=.slice (some ⟨w.heap.size,0,none⟩) m m) (φ:=fun x=>x=w.heap.size) (ob:=.row e n rows)
  (Kept.below ((Below.refl _ _).alloc (Nat.le_refl _) _)) (fun _ h=>h.elim) (fun _ _ _ _ _ h=>h) (fun _ _ _ h=>h)
  ⟨with_n,(fun g hg=>by rw [with_h,hsl] at hg;rw [with_b];exact (Option.some.inj hg).symm),by
   rw [with_h,with_f]
   refine ⟨fun r hr'=>by rw [← hr] at hr';obtain ⟨av,hav,rfl⟩:=List.mem_map.1 hr';exact (hck' av hav).2.1,(xs.map a.eval).map fun v=>v.cells.toList,fun _ _ _=>False,?_,hvs,?_,fun g hg=>by rw [hsl] at hg;exact (Option.some.inj hg).symm,
    fun _ _ _ h=>h.elim,fun _ _ _ _ _ h=>h.elim,fun i r r' h1 h2=>(hrel i r r' h1 h2).1,fun i r r' j av u h1 h2 h3 h4=>(hrel i r r' h1 h2).2 j av u h3 h4⟩
   ·have:((xs.map a.eval).map fun v=>v.cells.toList).length=m:=by simpa using hlm
    rw [this]
    exact own_weaken (by simpa using hown) (Nat.zero_le _)
   ·exact honeR⟩ trivial (fun x hx=>by
   obtain rfl:x=w.heap.size:=hx
   refine ⟨.inl ok.bel.size,by simp,fun k o h1 h2=>?_,fun p u h1 h2=>?_⟩
   ·have:=(ok.my k o _ h1 h2).2;omega
   ·have:=cell_block (ok.fw p u h1);omega)
 unfold Oper.wp execOp
 simp only [ho,Sem.run_bind,hrun,Result.andThen_ok,Sem.run_pure,Oper.upon]
 rw [hds]
 subst hq
 exact hN _ _ _ (ok'.set (d:=some d) (av:=.sl σ.nk) (v:=.slice (some ⟨w.heap.size,0,none⟩) m m) (with_sl rfl) (.sl _ (Nat.lt_succ_self _)) fun x hx=>by cases hx;exact of_blt hd)
theorem WO.build {T e n m q:Nat} {z:Value} {parts:Array (Nat×Operand)} {avs:List AV} {rows:List (List AV)} (ho:o.op=.buildSlice T m parts) (hT:P.underlying T=some (.slice e)) (hn:sizeB P e=some n) (hz:(P.info? e).bind (·.zero)=some z)
  (hp:numB 0 parts.toList=true) (hm:parts.toList.length=m) (hb:Nat.ble (m*n) 16777216=true) (hb1:Nat.ble m 16777216=true) (hds:o.dst=some d) (hd:Nat.blt d C.N=true) (hx:σ.evs (parts.toList.map (·.2))=some avs) (hck:rowsB n avs=true) (hr:avs.map AV.cells=rows) (hq:σ.nk=q) :
  WO P C o σ ((σ.new (.row e n rows)).put d (.sl q)) :=
 WO.build0 ho hT hn hz (numB_eq 0 _ hp) (by simpa using hm) hb hb1 hds hd hx hck hr hq
end
end
section
open Go.RowKit
def placesB (P:Program)(T:TypeId):Option (List (Nat×Nat)) :=
 match P.underlying T with
 | some (.struct fields)=>fields.toList.mapM fun f=>(P.info? f.type).map fun i=>(f.offset,i.size)
 | _=>none
def fillA (places:List (Nat×Nat)):List AV→List (Nat×AV)→Option (List AV)
 | cells,[]=>some cells
 | cells,(i,av)::r =>
  match places[i]? with
  | some (off,sz)=>bif av.cellB && Nat.beq av.cells.length sz && Nat.ble (off+sz) cells.length then fillA places (putL off av.cells cells) r else none
  | none=>none
def pairUp:List (Nat×Operand)→List AV→List (Nat×AV)
 | (i,_)::r,av::s=>(i,av)::pairUp r s
 | _,_=>[]
section
variable {P:Program} {C:Cx} {σ σ':St} {G G':Gh} {a:Act} {w w':World} {o:Oper} {d:Tmp} {ops:Array Oper} {Q:Exit→St→Prop}
theorem fillA_of {places:List (Nat×Nat)}:∀ (parts:List (Nat×AV)) (vals:List (Nat×Value)) (cells:List AV) (cs:Array Value) (l:List AV),fillA places cells parts=some l→vals.length=parts.length →
  (∀ (q:Nat) x y,parts[q]?=some x→vals[q]?=some y→y.1=x.1∧R G x.2 y.2)→cs.size=cells.length→(∀ (i:Nat) x u,cells[i]?=some x→cs[i]?=some u→R G x u) →
  ∃ cs',Instr.fill (places.toArray[·]?) cs vals=some cs'∧cs'.size=l.length∧∀ (i:Nat) x u,l[i]?=some x→cs'[i]?=some u→R G x u
 | [],vals,cells,cs,l,h,hl,_,hs,hc=>by
  cases h
  have:vals=[]:=List.eq_nil_of_length_eq_zero hl
  subst this
  exact ⟨cs,rfl,hs,hc⟩
 | (i,av)::r,[],cells,cs,l,h,hl,_,hs,hc=>by cases hl
 | (i,av)::r,(j,v)::vr,cells,cs,l,h,hl,hp,hs,hc=>by
  obtain ⟨e1,e2⟩:=hp 0 _ _ rfl rfl
  simp only at e1 e2
  subst e1
  unfold fillA at h
  cases hpl:places[j]? with
  | none=>simp [hpl] at h
  | some x =>
   obtain ⟨off,sz⟩:=x
   simp only [hpl] at h
   cases hb:av.cellB && Nat.beq av.cells.length sz && Nat.ble (off+sz) cells.length with
   | false=>rw [hb] at h;cases h
   | true =>
    rw [hb] at h
    simp only [cond_true] at h
    simp only [Bool.and_eq_true] at hb
    obtain ⟨⟨b1,b2⟩,b3⟩:=hb
    have b2:=Nat.eq_of_beq_eq_true b2
    have b3:=Nat.le_of_ble_eq_true b3
    obtain ⟨c1,c2⟩:=cells_of e2 b1
    have hfit:off+v.cells.toList.length≤cs.size:=by rw [hs];simp [c1,b2];omega
    have hfit2:off+av.cells.length≤cells.length:=by omega
    obtain ⟨cs',f1,f2,f3⟩:=fillA_of r vr (putL off av.cells cells) (putL off v.cells.toList cs.toList).toArray l h (by simpa using hl) (fun q x y a b=>hp (q+1) x y (by simpa using a) (by simpa using b))
     (by rw [List.size_toArray,putL_len (by simpa using hfit),putL_len hfit2];simpa using hs)
     (fun q x u a b=>putL_rel (R G) hfit2 (by rw [Array.length_toList];exact c1) (by rw [Array.length_toList];exact hs) (fun q x y a b=>c2 q x y a (by simpa using b)) (fun q x y a b=>hc q x y a (by simpa using b)) q x u a (by simpa using b))
    refine ⟨cs',?_,f2,f3⟩
    have hf:=fold_put v.cells.toList off cs hfit
    have e:(v.cells.zipIdx.foldl (fun cs (c,j)=>cs.setIfInBounds (off+j) c) cs)=(putL off v.cells.toList cs.toList).toArray:=by
     apply Array.ext'
     rw [← Array.foldl_toList,Array.toList_zipIdx,hf]
    have hpl':places.toArray[j]?=some (off,sz):=by simpa using hpl
    show (match places.toArray[j]? with|none=>none|some (off,sz)=>if v.cells.size≠sz|| off+v.cells.size > cs.size then none else Instr.fill _ _ vr)=_
    rw [hpl']
    simp only
    have hbad:(v.cells.size≠sz|| off+v.cells.size > cs.size)=false:=by
     rw [c1,b2];simp;rw [hs];omega
    rw [hbad]
    simp only [Bool.false_eq_true,if_false]
    rw [e];exact f1
theorem WV.build {T:TypeId} {parts:Array (Nat×Operand)} {z:Value} {places:List (Nat×Nat)} {avs l:List AV} (ho:o.op=.build T parts) (hz:(P.info? T).bind (·.zero)=some z) (hpl:placesB P T=some places)
  (hx:σ.evs (parts.toList.map (·.2))=some avs) (hf:fillA places (z.cells.toList.map .sc) (pairUp parts.toList avs)=some l):WV P C o σ (.ag l):=by
 have main:∀ G a w,Ok C σ G a w→∃ cs,(Instr.build T (parts.map fun (i,x)=>(i,a.eval x))).run P w=.ok (.agg cs) w∧cs.size=l.length∧∀ (i:Nat) x u,l[i]?=some x→cs[i]?=some u→R G x u:=by
  intro G a w ok
  obtain ⟨e1,e2⟩:=ok.evl hx
  have hlen:avs.length=parts.toList.length:=by simpa using e1.symm
  have hpu:∀ (ps:List (Nat×Operand)) (ys:List AV),ys.length=ps.length→(pairUp ps ys).length=ps.length∧∀ (q:Nat) x,(pairUp ps ys)[q]?=some x→∃ p av,ps[q]?=some p∧ys[q]?=some av∧x=(p.1,av):=by
   intro ps
   induction ps with
   | nil=>intro ys h;exact ⟨by cases ys<;>rfl,fun q x hx=>by cases ys<;>simp [pairUp] at hx⟩
   | cons p r ih =>
    intro ys h
    cases ys with
    | nil=>simp at h
    | cons av s =>
     obtain ⟨h1,h2⟩:=ih s (by simpa using h)
     refine ⟨by simp [pairUp,h1],fun q x hx=>?_⟩
     cases q with
     | zero=>cases hx;exact ⟨p,av,rfl,rfl,rfl⟩
     | succ q=>exact h2 q x (by simpa [pairUp] using hx)
  obtain ⟨p1,p2⟩:=hpu parts.toList avs hlen
  obtain ⟨cs',f1,f2,f3⟩:=fillA_of (G:=G) (pairUp parts.toList avs) (parts.toList.map fun (i,x)=>(i,a.eval x)) _ z.cells l hf (by simp [p1]) (fun q x y hxq hy=>by
   obtain ⟨p,av,q1,q2,rfl⟩:=p2 q x hxq
   rw [List.getElem?_map,q1] at hy
   simp at hy
   subst hy
   exact ⟨rfl,e2 q av _ q2 (by rw [List.map_map,List.getElem?_map,q1];rfl)⟩) (by simp) (fun i x u hxi hu=>by
   rw [List.getElem?_map,show z.cells.toList[i]?=z.cells[i]? by simp,hu] at hxi
   cases hxi
   exact .pu _ _ (.sc _))
  refine ⟨cs',?_,f2,f3⟩
  apply run_build
  unfold Program.built
  cases hi:P.info? T with
  | none=>simp [hi] at hz
  | some it =>
   simp [hi] at hz
   unfold placesB at hpl
   cases hu:P.underlying T with
   | none=>simp [hu] at hpl
   | some u =>
    cases u with
    | struct fields =>
     simp only [hu] at hpl
     simp only [hz,hpl]
     simpa using f1
    | _=>simp [hu] at hpl
 refine WV.val (fun G a w ok=>?_) fun G a w ok=>?_
 ·obtain ⟨_,b2⟩:True∧∀ av∈avs,Bd σ.nk av:=⟨trivial,by
   have:∀ (xs:List Operand) (ys:List AV),σ.evs xs=some ys→∀ av∈ys,Bd σ.nk av:=by
    intro xs
    induction xs with
    | nil=>intro ys h av hav;cases h;cases hav
    | cons x r ih =>
     intro ys h av hav
     unfold St.evs at h
     cases h1:σ.ev x with
     | none=>simp [h1] at h
     | some y =>
      cases h2:σ.evs r with
      | none=>simp [h1,h2] at h
      | some l' =>
       simp [h1,h2] at h
       subst h
       rcases List.mem_cons.1 hav with rfl|hav
       ·exact (ok.evr h1).1
       ·exact ih l' h2 av hav
   exact this _ _ hx⟩
  have hfb:∀ (parts:List (Nat×AV)) (cells l:List AV),fillA places cells parts=some l→(∀ x∈parts,Bd σ.nk x.2)→(∀ (i:Nat) x,cells[i]?=some x→Bd σ.nk x)→∀ (i:Nat) x,l[i]?=some x→Bd σ.nk x:=by
   intro parts
   induction parts with
   | nil=>intro cells l h _ hc;cases h;exact hc
   | cons p r ih =>
    intro cells l h hp hc
    obtain ⟨i,av⟩:=p
    unfold fillA at h
    cases hpl:places[i]? with
    | none=>simp [hpl] at h
    | some x =>
     obtain ⟨off,sz⟩:=x
     simp only [hpl] at h
     cases hb:av.cellB && Nat.beq av.cells.length sz && Nat.ble (off+sz) cells.length with
     | false=>rw [hb] at h;cases h
     | true =>
      rw [hb] at h
      simp only [Bool.and_eq_true] at hb
      have b2:=Nat.eq_of_beq_eq_true hb.1.2
      have b3:=Nat.le_of_ble_eq_true hb.2
      refine ih _ _ h (fun x hx=>hp x (by simp [hx])) fun q x hx=>?_
      rw [putL_at (by omega)] at hx
      split at hx
      ·exact cells_bd (hp (i,av) (by simp)) _ x hx
      ·exact hc q x hx
  refine .ag _ (hfb _ _ _ hf (fun x hx=>?_) fun i x hx=>?_)
  ·have:∀ (ps:List (Nat×Operand)) (ys:List AV),x∈pairUp ps ys→x.2∈ys:=by
    intro ps
    induction ps with
    | nil=>intro ys h;cases ys<;>simp [pairUp] at h
    | cons p r ih =>
     intro ys h
     cases ys with
     | nil=>simp [pairUp] at h
     | cons av s =>
      rcases List.mem_cons.1 (by simpa [pairUp] using h) with rfl|h
      ·simp
      ·exact List.mem_cons_of_mem _ (ih s h)
   exact b2 _ (this _ _ hx)
  ·rw [List.getElem?_map] at hx
   cases hq:z.cells.toList[i]? with
   | none=>simp [hq] at hx
   | some u=>simp [hq] at hx;rw [← hx];exact .sc _
 ·obtain ⟨cs,h1,h2,h3⟩:=main G a w ok
  exact ⟨.agg cs,by unfold execOp;simp only [ho,Sem.run_bind,h1,Result.andThen_ok,Sem.run_pure],.ag l cs h2 h3⟩
end
end
section
open Go.RowKit
def gdn(v:Value)(b:Bool):Bool :=
 match vb v with
 | some c=>!(c == b)
 | none=>true
section
variable {P:Program} {C:Cx} {σ σ':St} {G G':Gh} {a:Act} {w w':World} {o oj:Oper} {d d0:Tmp} {ops:Array Oper} {rest:List Oper} {Q:Exit→St→Prop} {j:Nat} {b c:Bool}
theorem WL.opno {v:Value} (hg:o.guard=some (j,b))(hj:ops[j]?=some oj)(hd0:oj.dst=some d0)(hv:look d0 σ.t=some (.sc v))(hb:gdn v b=true)(hds:o.dst=some d)(hd:Nat.blt d C.N=true)(k:WL P C ops rest (σ.put d (.sc undef)) Q):WL P C ops (o::rest) σ Q :=
 WL.opn hg hj hd0 hv (by
  unfold gdn at hb
  cases h:vb v with
  | none=>simp
  | some c=>rw [h] at hb;cases c<;>cases b<;>first|(intro h2;cases h2;done)|cases hb) hds hd k
theorem WL.partG (hg:o.guard=some (j,b)) (hj:ops[j]?=some oj) (hd0:oj.dst=some d0) (hv:look d0 σ.t=some (.sc (.bool c))) (h1:c=true→WL P C ops (o::rest) (σ.put d0 (.sc (.bool true))) Q) (h2:c=false→WL P C ops (o::rest) (σ.put d0 (.sc (.bool false))) Q):WL P C ops (o::rest) σ Q :=
 WL.part hv h1 h2
theorem W.condT {x:Operand} {p q:Code} (hc:σ.ev x=some (.sc (.bool true))) (h:W P C p σ Q):W P C (.cond x p q) σ Q:=W.cond hc (fun _=>h) (fun h=>by cases h)
theorem W.condF {x:Operand} {p q:Code} (hc:σ.ev x=some (.sc (.bool false))) (h:W P C q σ Q):W P C (.cond x p q) σ Q:=W.cond hc (fun h=>by cases h) (fun _=>h)
theorem ev_agree {t:List (Nat×AV)} {M:List (Nat×AO)} {nk:Nat} (H:∀ q∈o.looksAt ops,look q t=look q σ.t) {x:Operand} (hx:x∈o.op.operands.toList):(⟨t,M,nk⟩:St).ev x=σ.ev x:=by
 cases x with
 | tmp q=>exact H q (List.mem_append_left _ (List.mem_filterMap.2 ⟨.tmp q,hx,rfl⟩))
 | const v=>rfl
 | func f=>rfl
 | global g=>rfl
theorem evs_agree {t:List (Nat×AV)} {M:List (Nat×AO)} {nk:Nat} (H:∀ q∈o.looksAt ops,look q t=look q σ.t):∀ {xs:List Operand},(∀ x∈xs,x∈o.op.operands.toList)→(⟨t,M,nk⟩:St).evs xs=σ.evs xs
 | [],_=>rfl
 | x::r,h=>by
  unfold St.evs
  rw [ev_agree H (h x (by simp)),evs_agree H fun y hy=>h y (by simp [hy])]
end
theorem Tr.nilBox {C:Cx} {σ:St} {k j m:Nat} {T':TypeId} {cells cells':List AV} (T:TypeId) (n:Nat) (hk:look k σ.M=some (.box T' cells)) (hj:cells[j]?=some (.sc (.slice none 0 0))) (hm:σ.nk=m) (hc:cells.set j (.sl m)=cells') :
  Tr C σ ((σ.new (.row T n [])).upd k (.box T' cells')):=fun G a w ok=>by
 obtain ⟨G',ok',hsl⟩:=ok.nilRow T n
 subst hm hc
 have hkn:k≠σ.nk:=Nat.ne_of_lt (ok.ob k _ hk).1
 have hk':look k (σ.new (.row T n [])).M=some (.box T' cells):=by
  rw [show look k (σ.new (.row T n [])).M=look k σ.M from look_set_other hkn];exact hk
 obtain ⟨g1,g2,g3,cs,Φ,g4,g5,g6,g7,g8⟩:=ok'.ob k _ hk'
 refine ⟨G',ok'.reob hk' ⟨g1,fun i av x=>?_,g3,cs,Φ,g4,by simpa using g5,g6,g7,fun i av u x y=>?_⟩⟩
 ·rw [List.getElem?_set]at x
  split at x
  ·split at x
   ·cases x;exact .sl _ (Nat.lt_succ_self _)
   ·cases x
  ·exact g2 i av x
 ·by_cases e:j=i
  ·subst e
   have hlt:j<cells.length:=(List.getElem?_eq_some_iff.1 hj).1
   rw [List.getElem?_set_self hlt]at x
   cases x
   have:=((g8 j _ u hj y).r rfl).sc_eq
   rw [this];exact .inl hsl
  ·rw [List.getElem?_set_ne e]at x
   exact g8 i av u x y
theorem callF {P:Program} {f:FuncId} {fn:Func} (h:P.funcs[f]?=some fn)(hn:(fn.name == "runtime.NumGoroutine")=false)(hb:fn.body.isNone=false):∀ vs w,(callFunc f vs).run P w=.ok (.enter f vs) w:=fun vs w=>by
 unfold callFunc
 simp only [Sem.run_bind,run_program,Result.andThen_ok,h,hn,hb,Bool.false_eq_true,if_false]
 rfl
theorem zqc {P:Program} {C:Cx} {o:Oper} {σ:St} {f:FuncId} {fn:Func} {xs:Array Operand} {ts:Array TypeId} {args:List AV} {res:AV} (hf:P.funcs[f]? = some fn) (h:Ctr P f args res) (ho:o.op = .call { callee:=.value (.func f),args:=xs,argTypes:=ts }:=by rfl) (hx:σ.evs xs.toList = some args:=by rfl) (hp:args.all AV.pu2 = true:=by rfl) (hn:(fn.name == "runtime.NumGoroutine") = false:=by rfl) (hb:fn.body.isNone = false:=by rfl):WV P C o σ res:=WV.call ho (callF hf hn hb) hx hp h
theorem letsOut_mono {Q Q':Exit→Act→World→Prop} (h:∀ e a w,Q e a w→Q' e a w)(k:LetsOut Q):LetsOut Q':=let⟨a,w,q⟩:=k;⟨a,w,h _ a w q⟩
theorem wp_monoQ {P:Program} {o:Oper} {a:Act} {w:World} {K K':Act→World→Prop} {Q Q':Exit→Act→World→Prop} (hk:∀ a w,K a w→K' a w)(hq:∀ e a w,Q e a w→Q' e a w)(h:o.wp P a w K Q):o.wp P a w K' Q':=by
 unfold Oper.wp at *
 generalize(execOp a.eval o).run P w=r at *
 cases r with
 | ok n w' =>
  cases n<;>simp only [Oper.upon]at h ⊢
  case value v=>exact hk _ _ h
  case skip=>exact hk _ _ h
  case defer d=>exact hk _ _ h
  case enter f args =>
   refine h.mono fun e w'' x=>?_
   cases e with
   | returned v=>exact hk _ _ x
   | panicked c=>exact hq _ _ _ x
   | outgrown=>exact letsOut_mono hq x
  case row r args=>exact h.mono fun v w'' x=>hk _ _ x
 | halt x w' =>
  cases x<;>simp only [Oper.upon]at h ⊢
  exact hq _ _ _ h
theorem wpList_mono' {P:Program} {ops:Array Oper} {Q Q':Exit→Act→World→Prop}:∀ {l:List Oper} {a:Act} {w:World},wpList P ops Q l a w→(∀ e a w,Q e a w→Q' e a w)→wpList P ops Q' l a w
 | [],a,w,h,hq=>hq _ _ _ h
 | o::rest,a,w,h,hq=>by
  unfold wpList at *
  split at h
  ·rename_i hw
   rw [if_pos hw]
   rcases h with h|⟨h1,h2⟩
   ·exact .inl (wp_monoQ (fun a w x=>wpList_mono' x hq) hq h)
   ·exact .inr ⟨h1,letsOut_mono hq h2⟩
  ·rename_i hw
   rw [if_neg hw]
   exact wpList_mono' h hq
theorem W.meet {P:Program} {C:Cx} {σ:St} {Q Q2:Exit→St→Prop} {x y:Code} (σm:St)(h:W P C x σ (QThen (fun s=>Tr C s σm) Q))(k:W P C y σm Q2):W P C x σ (QThen (fun s=>W P C y s Q2) Q) :=
 W.mono h fun e s q=>by
  cases e with
  | normal=>exact W.tr q k
  | _=>exact q
theorem WL.meet2 {P:Program} {C:Cx} {σ:St} {ops:Array Oper} {l:List Oper} {Q Q1 Q2:Exit→St→Prop} {x y:Code} (σm:St)(h:WL P C ops l σ (QThen (fun s=>W P C x s (QThen (fun s=>Tr C s σm) Q)) Q1))(k:W P C y σm Q2) :
  WL P C ops l σ (QThen (fun s=>W P C x s (QThen (fun s=>W P C y s Q2) Q)) Q1):=fun G a w ok =>
 wpList_mono' (h G a w ok) fun e a w⟨s,g,q,o⟩=>⟨s,g,by
  cases e with
  | normal=>exact W.meet σm q k
  | _=>exact q,o⟩
end
section
open Go.RowKit
def DK(P:Program)(C:Cx)(ops:Array Oper)(l:List Oper)(σ:St)(Q:Exit→St→Prop):Prop:=∃ σ',DL P C ops l σ σ'∧Q .normal σ'
section
variable {P:Program} {C:Cx} {σ:St} {ops:Array Oper} {l rest:List Oper} {o:Oper} {d:Tmp} {av:AV} {Q:Exit→St→Prop}
theorem W.drawK {id:Nat} (hm:P.follows .mixedOrders=true)(hB:Region.lexB .any l.toArray=true)(h:DK P C l.toArray l σ Q):W P C (.region id l.toArray true) σ Q :=
 let⟨_,a,b⟩:=h;W.draw hm hB a b
theorem DK.nil(k:Q .normal σ):DK P C ops [] σ Q:=⟨σ,.nil σ,k⟩
theorem DK.op (hd:o.dst=some d)(hN:Nat.blt d C.N=true)(h:Does P C ops o σ av)(k:DK P C ops rest (σ.put d av) Q):DK P C ops (o::rest) σ Q :=
 let⟨s,a,b⟩:=k;⟨s,.op o rest d av σ s hd hN h a,b⟩
theorem DK.val (hd:o.dst=some d) (hN:Nat.blt d C.N=true) (hg:guardK ops o (σ.only (o.looksAt ops))=some true) (h:WV P C o (σ.only (o.looksAt ops)) av) (k:DK P C ops rest (σ.put d av) Q):DK P C ops (o::rest) σ Q:=DK.op hd hN (.inl ⟨hg,h⟩) k
theorem DK.no (hd:o.dst=some d) (hN:Nat.blt d C.N=true) (hg:guardK ops o (σ.only (o.looksAt ops))=some false) (k:DK P C ops rest (σ.put d (.sc undef)) Q):DK P C ops (o::rest) σ Q:=DK.op hd hN (.inr ⟨hg,rfl⟩) k
variable {mem:List Bool} {Mc:List (Nat×AO)} {nk0 k:Nat}
end
end
section
open Go.RowKit
theorem flat_rep(z:Value):∀ k:Nat,(List.replicate k [z]).flatten=List.replicate k z
 | 0=>rfl
 | k+1=>by rw [List.replicate_succ,List.replicate_succ,List.flatten_cons,flat_rep z k];rfl
section
variable {P:Program} {C:Cx} {σ:St} {o:Oper} {d:Tmp}
theorem WO.make1 {T e q k:Nat} {z:Value} {i:TypeInfo} {x y:Operand} (ho:o.op=.makeSlice T x y) (hT:P.underlying T=some (.slice e)) (hi:P.info? e=some i) (hz:i.zero=some z) (hn:i.size=1) (hby:Nat.ble i.bytes 1000=true)
  (hc:∀ k,(madeCells z.cells (k*1)).toList=List.replicate k z) (hz1:z.oneCell'=true) (hds:o.dst=some d) (hd:Nat.blt d C.N=true) (hx:σ.ev x=some (.sc (.int .i64 (k:Nat)))) (hy:σ.ev y=some (.sc (.int .i64 (k:Nat)))) (hk:k≤1000000) (hq:σ.nk=q) :
  WO P C o σ ((σ.new (.row e 1 (List.replicate k [.sc z]))).put d (.sl q)):=by
 intro G a w ok N Q' hN
 have hb:=Nat.le_of_ble_eq_true hby
 have hbk:i.bytes*k≤281474976710656:=Nat.le_trans (Nat.mul_le_mul hb hk) (by decide)
 obtain ⟨w',hrun,hown,hgr⟩:=run_makeSlice_full (P:=P) w C.w0.heap.size T e i z 1 hT hi hz hn .i64 .i64 k zqo hbk (by unfold maxLen;omega) ok.bel.size
 have hl:(List.replicate k [z]).length=k:=by simp
 have hsl:(.slice (some ⟨w.heap.size,0,none⟩) k k:Value).ownBlock=some w.heap.size:=rfl
 have hlt:w.heap.size<w'.heap.size:=by
  rcases hown.2 with⟨e,_⟩|⟨g,cap,cur,e,_,hh,_⟩
  ·cases e
  ·obtain rfl:w.heap.size=g:=by injection e with e _ _;injection e with e;injection e
   exact (Array.getElem?_eq_some_iff.1 hh).1
 have ok':=ok.newObj (w':=w') (S:=fun _=>False) (b:=w.heap.size) (n:=1) (h:=.slice (some ⟨w.heap.size,0,none⟩) k k) (φ:=fun x=>x=w.heap.size) (ob:=.row e 1 (List.replicate k [.sc z]))
  ⟨hgr.os,hgr.tape,hgr.output,hgr.size,fun x h1 _=>hgr.block x h1 (by simp)⟩ (fun _ h=>h.elim) (fun _ _ _ _ _ h=>h) (fun _ _ _ h=>h)
  ⟨with_n,(fun g hg=>by rw [with_h,hsl] at hg;rw [with_b];exact (Option.some.inj hg).symm),by
   rw [with_h,with_f]
   refine ⟨fun r hr=>by rw [List.eq_of_mem_replicate hr];rfl,List.replicate k [z],fun _ _ _=>False,by rw [hl,flat_rep,← hc k];exact own_weaken hown (Nat.zero_le _),by simp,?_,fun g hg=>by rw [hsl] at hg;exact (Option.some.inj hg).symm,
    fun _ _ _ h=>h.elim,fun _ _ _ _ _ h=>h.elim,fun j r r' h1 h2=>?_,fun j r r' q av u h1 h2 h3 h4=>?_⟩
   ·intro r hr u hu
    rw [List.eq_of_mem_replicate hr] at hu
    obtain rfl:u=z:=by simpa using hu
    exact hz1
   ·rw [List.eq_of_mem_replicate (List.mem_of_getElem? h1),List.eq_of_mem_replicate (List.mem_of_getElem? h2)];rfl
   ·rw [List.eq_of_mem_replicate (List.mem_of_getElem? h1)] at h3
    rw [List.eq_of_mem_replicate (List.mem_of_getElem? h2)] at h4
    match q with
    | 0=>cases h3;cases h4;exact .sc _
    | q+1=>simp at h3⟩ trivial (fun x hx=>by
   obtain rfl:x=w.heap.size:=hx
   refine ⟨.inl ok.bel.size,hlt,fun k o h1 h2=>?_,fun p u h1 h2=>?_⟩
   ·have:=(ok.my k o _ h1 h2).2;omega
   ·have:=cell_block (ok.fw p u h1);omega)
 unfold Oper.wp execOp
 simp only [ho,ok.evs hx,ok.evs hy,Sem.run_bind,hrun,Result.andThen_ok,Sem.run_pure,Oper.upon]
 rw [hds]
 subst hq
 exact hN _ _ _ (ok'.set (d:=some d) (av:=.sl σ.nk) (v:=.slice (some ⟨w.heap.size,0,none⟩) k k) (with_sl rfl) (.sl _ (Nat.lt_succ_self _)) fun x hx=>by cases hx;exact of_blt hd)
end
end
section
open Go.RowKit
def tailB (ops:Array Oper)(k0:Nat):Bool:=Nat.ble k0 ops.size &&
 ((List.range ops.size).all fun j=>Nat.blt j k0|| (List.range j).all fun i=>needs ops i ops.size j) &&
 ((List.range k0).all fun j=>match ops[j]? with
  | some o=>match o.guard with
   | some (g,_)=>Nat.blt g k0
   | none=>true
  | none=>true)
section
variable {P:Program} {ops:Array Oper} {Q Q1:Exit→Act→World→Prop}
theorem Oper.wp_post {o:Oper} {a:Act} {w:World} {K K':Act→World→Prop} (hK:∀ a w,K a w→K' a w)(hQ:∀ e a w,e≠.normal→Q1 e a w→Q e a w)(h:o.wp P a w K Q1):o.wp P a w K' Q:=by
 unfold Oper.wp at *
 generalize (execOp a.eval o).run P w=r at *
 have lets:LetsOut Q1→LetsOut Q:=fun⟨a,w,q⟩=>⟨a,w,hQ _ _ _ (by simp) q⟩
 unfold Oper.upon at *
 split at h
 ·exact hK _ _ h
 ·exact hK _ _ h
 ·exact hK _ _ h
 ·refine Calls.mono h fun e w' he=>?_
  cases e with
  | returned v=>exact hK _ _ he
  | panicked c=>exact hQ _ _ _ (by simp) he
  | outgrown=>exact lets he
 ·exact Rows.mono h fun v w' hv=>hK _ _ hv
 ·exact hQ _ _ _ (by simp) h
 ·exact h.elim
theorem yielded_app {l s:List Oper} {t:Array Value} {g:Nat} (h:g<l.length):yielded (l++s).toArray t g=yielded l.toArray t g:=by
 unfold yielded
 have:(l++s).toArray[g]?=l.toArray[g]?:=by simp [List.getElem?_append_left h]
 rw [this]
theorem wpAny_tail (FA:∀ j oj,ops[j]?=some oj→∀ e∈oj.after,Region.binds .any e=true→e.on<j) {k0:Nat} (hT:∀ j,k0≤j→j<ops.size→∀ i,i<j→needs ops i ops.size j=true) :
  ∀ (f m fuel:Nat) (listed:Array Bool) (a:Act) (w:World),m+f=ops.size→k0≤m→listed.size=ops.size→(∀ i,i<ops.size→listed.getD i false=decide (i<m))→f≤fuel→wpList P ops Q (ops.toList.drop m) a w→wpAny P .any ops Q fuel listed a w:=by
 intro f
 induction f with
 | zero =>
  intro m fuel listed a w hm hk hsz hl hf h
  have hr:Region.ready .any ops listed=[]:=by
   apply List.eq_nil_iff_forall_not_mem.2
   intro j hj
   obtain ⟨h1,oj,h2,_⟩:=mem_ready.1 hj
   have hlt:=(Array.getElem?_eq_some_iff.1 h2).1
   have h3:=hl j hlt
   rw [decide_eq_true (by omega)] at h3
   have:listed.getD j true=listed.getD j false:=by simp [Array.getD_eq_getD_getElem?,hsz,hlt]
   rw [this,h3] at h1;cases h1
  have hd:ops.toList.drop m=[]:=List.drop_eq_nil_of_le (by simp;omega)
  rw [hd] at h
  cases fuel with
  | zero=>exact ⟨hr,h⟩
  | succ fuel=>exact ⟨fun _=>h,fun i hi=>by rw [hr] at hi;cases hi⟩
 | succ f ih =>
  intro m fuel listed a w hm hk hsz hl hf h
  obtain ⟨fuel,rfl⟩:∃ q,fuel=q+1:=⟨fuel-1,by omega⟩
  have hlt:m<ops.size:=by omega
  have hom:ops[m]?=some ops[m]:=Array.getElem?_eq_getElem hlt
  have hrm:m∈Region.ready .any ops listed:=mem_ready.2 ⟨by
   have:listed.getD m true=listed.getD m false:=by simp [Array.getD_eq_getD_getElem?,hsz,hlt]
   rw [this,hl m hlt];simp,_,hom,fun e he hb=>by
   have:=FA m _ hom e he hb
   rw [hl _ (by omega)];simpa using this⟩
  have hd:ops.toList.drop m=ops[m]::ops.toList.drop (m+1):=by
   rw [List.drop_eq_getElem_cons (by simpa using hlt)];simp
  rw [hd] at h
  refine ⟨fun hr=>(by rw [hr] at hrm;cases hrm),fun i hi=>?_⟩
  have him:m=i:=by
   obtain ⟨h1,oi,h2,h3⟩:=mem_ready.1 hi
   have hi2:=(Array.getElem?_eq_some_iff.1 h2).1
   have e1:listed.getD i true=listed.getD i false:=by simp [Array.getD_eq_getD_getElem?,hsz,hi2]
   rw [e1,hl i hi2] at h1
   have hge:m≤i:=by simpa using h1
   by_cases e:m=i
   ·exact e
   ·have:=needs_ready (listed:=listed) (fun j oj ho hj e he hb=>by
      have h5:=FA j oj ho e he hb
      have hjs:=(Array.getElem?_eq_some_iff.1 ho).1
      rw [hl j hjs] at hj
      rw [hl _ (by omega)]
      have h6:=of_decide_eq_true hj
      exact decide_eq_true zqo) h2 h3 _ (hT i zqo hi2 m zqo)
    rw [hl m hlt] at this
    simp at this
  subst him
  have step:∀ a w,wpList P ops Q (ops.toList.drop (m+1)) a w→wpAny P .any ops Q fuel (listed.setIfInBounds m true) a w:=fun a w hw =>
   ih (m+1) fuel _ a w (by omega) (by omega) (by simpa using hsz) (fun q hq=>by
    by_cases e:m=q
    ·subst e
     simp [Array.getD_eq_getD_getElem?,hsz,hlt]
    ·have h7:(listed.setIfInBounds m true).getD q false=listed.getD q false:=by simp [Array.getD_eq_getD_getElem?,Array.getElem?_setIfInBounds_ne e]
     rw [h7,hl q hq]
     have:(q<m)↔(q<m+1):=by omega
     simp [this]) (by omega) hw
  unfold wpOp
  simp only [hom]
  simp only [wpList] at h
  by_cases hw:Region.wanted ops[m] (yielded ops a.tmps)=true
  ·rw [if_pos hw] at h ⊢
   exact h.imp (Oper.wp_mono step) id
  ·rw [if_neg hw] at h ⊢
   exact step _ _ h
theorem wpAny_app {l s:List Oper} (FA:∀ j oj,(l++s).toArray[j]?=some oj→∀ e∈oj.after,Region.binds .any e=true→e.on<j) (hT:∀ j,l.length≤j→j<(l++s).toArray.size→∀ i,i<j→needs (l++s).toArray i (l++s).toArray.size j=true)
  (hg:∀ (j:Nat) o g b,l[j]?=some o→o.guard=some (g,b)→g<l.length) (hN:∀ a w,Q1 .normal a w→wpList P (l++s).toArray Q s a w) (hQ:∀ e a w,e≠.normal→Q1 e a w→Q e a w) :
  ∀ (fuel:Nat) (la lb:Array Bool) (a:Act) (w:World),la.size=l.length→lb.size=(l++s).length→(∀ i,i<l.length→lb.getD i false=la.getD i false)→(∀ i,l.length≤i→i<(l++s).length→lb.getD i false=false) →
   (∀ j oj,l[j]?=some oj→la.getD j false=true→∀ e∈oj.after,Region.binds .any e=true→la.getD e.on false=true) →
   wpAny P .any l.toArray Q1 fuel la a w→wpAny P .any (l++s).toArray Q (fuel+s.length) lb a w:=by
 have opl:∀ {j:Nat},j<l.length→(l++s).toArray[j]?=l[j]?:=fun h=>by simp [List.getElem?_append_left h]
 have FAl:∀ j oj,l[j]?=some oj→∀ e∈oj.after,Region.binds .any e=true→e.on<j:=fun j oj ho=>FA j oj ((opl (List.getElem?_eq_some_iff.1 ho).1).trans ho)
 have fin:∀ (fuel:Nat) (la lb:Array Bool) (a:Act) (w:World),la.size=l.length→lb.size=(l++s).length→(∀ i,i<l.length→lb.getD i false=la.getD i false)→(∀ i,l.length≤i→i<(l++s).length→lb.getD i false=false) →
   Region.ready .any l.toArray la=[]→Q1 .normal a w→wpAny P .any (l++s).toArray Q (fuel+s.length) lb a w:=by
  intro fuel la lb a w h1 h2 h3 h4 hr hq
  have hall:∀ n i,i<n→i<l.length→la.getD i false=true:=by
   intro n
   induction n with
   | zero=>intro i h;omega
   | succ n ih =>
    intro i hi hlt
    by_cases e:i<n
    ·exact ih i e hlt
    ·cases hli:la.getD i false with
     | true=>rfl
     | false =>
      have hoi:l.toArray[i]?=some l[i]:=by simp [hlt]
      have:i∈Region.ready .any l.toArray la:=mem_ready.2 ⟨by
       have:la.getD i true=la.getD i false:=by simp [Array.getD_eq_getD_getElem?,h1,hlt]
       rw [this];exact hli,l[i],hoi,fun e he hb=>by
        have:=FAl i l[i] (by simp [hlt]) e he hb
        exact ih e.on zqo zqo⟩
      rw [hr] at this;cases this
  refine wpAny_tail FA hT s.length l.length _ lb a w (by simp) (Nat.le_refl _) (by simpa using h2) (fun i hi=>?_) (by omega) ?_
  ·by_cases e:i<l.length
   ·rw [h3 i e,hall (i+1) i (by omega) e,decide_eq_true e]
   ·rw [h4 i (by omega) (by simpa using hi),decide_eq_false e]
  ·have:(l++s).toArray.toList.drop l.length=s:=by simp
   rw [this]
   exact hN a w hq
 intro fuel
 induction fuel with
 | zero =>
  intro la lb a w h1 h2 h3 h4 _ h
  exact fin 0 la lb a w h1 h2 h3 h4 h.1 h.2
 | succ fuel ih =>
  intro la lb a w h1 h2 h3 h4 hcl h
  obtain ⟨hn,hs⟩:=h
  by_cases hr:Region.ready .any l.toArray la=[]
  ·exact fin (fuel+1) la lb a w h1 h2 h3 h4 hr (hn hr)
  ·obtain ⟨j0,hj0⟩:=List.exists_mem_of_ne_nil _ hr
   obtain ⟨u1,o0,u2,u3⟩:=mem_ready.1 hj0
   have hj0l:j0<l.length:=by have:=(Array.getElem?_eq_some_iff.1 u2).1;simpa using this
   have hj0n:j0<(l++s).length:=by simp;omega
   have u1':la.getD j0 false=false:=by
    have:la.getD j0 true=la.getD j0 false:=by simp [Array.getD_eq_getD_getElem?,h1,hj0l]
    rw [← this];exact u1
   have hcl2:∀ j oj,(l++s).toArray[j]?=some oj→lb.getD j false=true→∀ e∈oj.after,Region.binds .any e=true→lb.getD e.on false=true:=by
    intro j oj ho hj e he hb
    have hjn:j<(l++s).length:=by have:=(Array.getElem?_eq_some_iff.1 ho).1;simpa using this
    by_cases e2:j<l.length
    ·have ho':l[j]?=some oj:=(opl e2).symm.trans ho
     have:=FAl j oj ho' e he hb
     rw [h3 _ (by omega)]
     rw [h3 _ e2] at hj
     exact hcl j oj ho' hj e he hb
    ·rw [h4 j (by omega) hjn] at hj;cases hj
   rw [show fuel+1+s.length=(fuel+s.length)+1 by omega]
   have hmem:∀ i,i∈Region.ready .any (l++s).toArray lb→i<l.length∧i∈Region.ready .any l.toArray la:=by
    intro i hi
    obtain ⟨v1,oi,v2,v3⟩:=mem_ready.1 hi
    have hin:i<(l++s).toArray.size:=(Array.getElem?_eq_some_iff.1 v2).1
    have hil:i<l.length:=by
     by_cases e:i<l.length
     ·exact e
     ·have:=needs_ready (listed:=lb) hcl2 v2 v3 _ (hT i zqo hin j0 zqo)
      rw [h3 _ hj0l,u1'] at this;cases this
    have v2':l.toArray[i]?=some oi:=by rw [opl hil] at v2;simpa using v2
    refine ⟨hil,mem_ready.2 ⟨?_,oi,v2',fun e he hb=>?_⟩⟩
    ·have q1:lb.getD i true=lb.getD i false:=by simp [Array.getD_eq_getD_getElem?,show i<lb.size by rw [h2];simpa using hin]
     have q2:la.getD i true=la.getD i false:=by simp [Array.getD_eq_getD_getElem?,h1,hil]
     rw [q2,← h3 i hil,← q1];exact v1
    ·have:=FA i oi v2 e he hb
     rw [← h3 _ (by omega)];exact v3 e he hb
   refine ⟨fun hr2=>?_,fun i hi=>?_⟩
   ·have:j0∈Region.ready .any (l++s).toArray lb:=mem_ready.2 ⟨by
     have:lb.getD j0 true=lb.getD j0 false:=by simp [Array.getD_eq_getD_getElem?,show j0<lb.size by rw [h2];exact hj0n]
     rw [this,h3 _ hj0l];exact u1',o0,by rw [opl hj0l];simpa using u2,fun e he hb=>by
      have:=FAl j0 o0 (by simpa using u2) e he hb
      rw [h3 _ (by omega)];exact u3 e he hb⟩
    rw [hr2] at this;cases this
   ·obtain ⟨hil,hia⟩:=hmem i hi
    obtain ⟨v1,oi,v2,v3⟩:=mem_ready.1 hia
    have hli:l[i]?=some oi:=by simpa using v2
    have h:=hs i hia
    have hob:(l++s).toArray[i]?=some oi:=(opl hil).trans hli
    have hset:∀ q,i≠q→∀ (x:Array Bool),(x.setIfInBounds i true).getD q false=x.getD q false:=fun q e x=>by simp [Array.getD_eq_getD_getElem?,Array.getElem?_setIfInBounds_ne e]
    have step:∀ a w,wpAny P .any l.toArray Q1 fuel (la.setIfInBounds i true) a w→wpAny P .any (l++s).toArray Q (fuel+s.length) (lb.setIfInBounds i true) a w:=fun a w k =>
     ih _ _ a w (by simpa using h1) (by simpa using h2) (fun q hq=>by
      by_cases e:i=q
      ·subst e;simp [Array.getD_eq_getD_getElem?,h1,h2,hil];omega
      ·rw [hset q e,hset q e];exact h3 q hq) (fun q hq hq2=>by rw [hset q (by omega)];exact h4 q hq hq2)
      (fun q oq hoq hq e he hb=>by
       have mono:∀ x,la.getD x false=true→(la.setIfInBounds i true).getD x false=true:=fun x hx=>by
        by_cases e:i=x
        ·subst e;simp [Array.getD_eq_getD_getElem?,h1,hil]
        ·rw [hset x e];exact hx
       by_cases e2:i=q
       ·subst e2
        rw [hli] at hoq;cases hoq
        exact mono _ (v3 e he hb)
       ·rw [hset q e2] at hq
        exact mono _ (hcl q oq hoq hq e he hb)) k
    unfold wpOp at h ⊢
    simp only [v2] at h
    simp only [hob]
    have hwant:Region.wanted oi (yielded (l++s).toArray a.tmps)=Region.wanted oi (yielded l.toArray a.tmps):=by
     cases hgd:oi.guard with
     | none=>simp [Region.wanted,hgd]
     | some gb =>
      obtain ⟨g,b⟩:=gb
      simp [Region.wanted,hgd,yielded_app (hg i oi g b hli hgd)]
    rw [hwant]
    by_cases hw:Region.wanted oi (yielded l.toArray a.tmps)=true
    ·rw [if_pos hw] at h ⊢
     rcases h with h|⟨h,hl⟩
     ·exact .inl (Oper.wp_post step hQ h)
     ·exact .inr ⟨h,let ⟨a,w,q⟩:=hl;⟨a,w,hQ _ _ _ (by simp) q⟩⟩
    ·rw [if_neg hw] at h ⊢
     exact step _ _ h
end
section
variable {P:Program} {C:Cx} {σ:St} {Q:Exit→St→Prop}
theorem W.drawT {id:Nat} {L:List Oper} (k0:Nat) (hm:P.follows .mixedOrders=true) (hB:Region.lexB .any L.toArray=true) (hT:tailB L.toArray k0=true)
  (h:WA P C (L.take k0).toArray σ (fun e s=>e=.normal∧WL P C L.toArray (L.drop k0) s Q)):W P C (.region id L.toArray true) σ Q:=by
 refine W.of_wa hm fun G a w ok=>?_
 obtain ⟨l,hl⟩:∃ l,L.take k0=l:=⟨_,rfl⟩
 obtain ⟨s,hs⟩:∃ s,L.drop k0=s:=⟨_,rfl⟩
 have hL:L=l++s:=by rw [← hl,← hs,List.take_append_drop]
 rw [hl,hs] at h
 simp only [Region.lexB,Bool.and_eq_true] at hB
 obtain ⟨FA,_⟩:=lex_facts (ops:=L.toArray) L.toArray.size 0 (Array.replicate L.toArray.size false) (by simp) (by simp) (fun i hi=>by simp [Array.getD_eq_getD_getElem?,hi] at hi ⊢;simp [hi]) hB.2
 simp only [tailB,Bool.and_eq_true] at hT
 obtain ⟨⟨T0,T1⟩,T2⟩:=hT
 have hk:l.length≤k0:=by rw [← hl];simp;omega
 by_cases hkL:k0≤L.length
 ·have hlk:l.length=k0:=by rw [← hl];simp;omega
  subst hL
  have:=wpAny_app (P:=P) (Q:=Post C Q) (Q1:=Post C (fun e s'=>e=.normal∧WL P C (l++s).toArray s s' Q)) (l:=l) (s:=s) (fun j oj ho=>FA j oj (Nat.zero_le _) ho)
   (fun j hj hjn i hij=>by
    have q:=List.all_eq_true.1 T1 j (List.mem_range.2 hjn)
    have e:Nat.blt j k0=false:=by
     cases hb:Nat.blt j k0 with
     | false=>rfl
     | true=>have:=of_blt hb;omega
    rw [e,Bool.false_or] at q
    exact List.all_eq_true.1 q i (List.mem_range.2 hij))
   (fun j o g b ho hgd=>by
    have hj:j<l.length:=(List.getElem?_eq_some_iff.1 ho).1
    have q:=List.all_eq_true.1 T2 j (List.mem_range.2 zqo)
    rw [show (l++s).toArray[j]?=some o by simp [List.getElem?_append_left hj,ho]] at q
    simp only [hgd] at q
    have:=of_blt q
    omega)
   (fun a w ⟨s',G',⟨_,q⟩,o⟩=>q G' a w o)
   (fun e a w he ⟨s',G',⟨q,_⟩,o⟩=>absurd q he)
   l.length (Array.replicate l.length false) (Array.replicate (l++s).length false) a _ (by simp) (by simp) (fun i hi=>by rw [rep_getD,rep_getD]) (fun i _ _=>rep_getD _ _)
   (fun j oj _ hj=>by rw [rep_getD] at hj;cases hj) (by simpa using h G a w ok)
  simpa using this
 ·exact absurd (by simpa using Nat.le_of_ble_eq_true T0) hkL
end
end
end Go.Proofs.YthehkchjdkdbiaaGreatDoor
