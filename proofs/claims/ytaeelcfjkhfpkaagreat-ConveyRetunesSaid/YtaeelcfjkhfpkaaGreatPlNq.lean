/- Systems, and where a course stands: the program. -/
import Derived.Test.YtaeelcfjkhfpkaaGreatE7Nq
import Derived.Test.YtaeelcfjkhfpkaaGreatSymNq
import Derived.Test.YtaeelcfjkhfpkaaGreatRefNq
import Derived.Test.YtaeelcfjkhfpkaaGreatRLgNq
set_option maxHeartbeats 1600000
set_option maxRecDepth 100000
set_option linter.unusedVariables false
set_option linter.unusedSimpArgs false
namespace Go.Proofs.YtaeelcfjkhfpkaaGreat
section
open Go.RowKit
def rem {α:Type} (k:Nat):List (Nat×α)→List (Nat×α)
 | []=>[]
 | x::r=>bif Nat.beq k x.1 then rem k r else x::rem k r
theorem look_rem {α:Type} (k i:Nat):∀ (l:List (Nat×α)),look i (rem k l)=if i=k then none else look i l
 | []=>by simp [rem,look]
 | x::r=>by
  have ih:=look_rem k i r
  by_cases e:k=x.1
  ·have hb:Nat.beq k x.1=true:=by rw [e];simp
   simp only [rem,hb,cond_true,ih]
   by_cases e2:i=k
   ·rw [if_pos e2,if_pos e2]
   ·rw [if_neg e2,if_neg e2,look_set_other (fun h=>e2 (h.trans e.symm))]
  ·have hb:Nat.beq k x.1=false:=by
    cases hb:Nat.beq k x.1 with
    | false=>rfl
    | true=>exact absurd (Nat.eq_of_beq_eq_true hb) e
   simp only [rem,hb,cond_false]
   by_cases e3:i=x.1
   ·subst e3
    rw [show look x.1 (x::rem k r)=some x.2 from look_set_same,show look x.1 (x::r)=some x.2 from look_set_same,if_neg (fun h=>e h.symm)]
   ·rw [show look i (x::rem k r)=look i (rem k r) from look_set_other e3,show look i (x::r)=look i r from look_set_other e3,ih]
def St.drop(σ:St)(k:Nat):St:={ σ with M:=rem k σ.M }
def St.src (σ:St)(n:Nat):AV→Option (List (List AV))
 | .ls m rows=>bif Nat.beq m n && Nat.blt 0 m then some rows else none
 | .sl k =>
  match look k σ.M with
  | some (.row _ m rows)=>bif Nat.beq m n && Nat.blt 0 m then some rows else none
  | _=>none
 | _=>none
section
variable {P:Program} {C:Cx} {σ σ':St} {G G':Gh} {a:Act} {w w':World} {o:Oper} {d:Tmp}
theorem Ok.drop_ (ok:Ok C σ G a w)(k:Nat):Ok C (σ.drop k) G a w:=by
 have hl:∀ i ob,look i (σ.drop k).M=some ob→i≠k∧look i σ.M=some ob:=fun i ob h=>by
  rw [show look i (σ.drop k).M=_ from look_rem k i σ.M] at h
  by_cases e:i=k
  ·rw [if_pos e] at h;cases h
  ·rw [if_neg e] at h;exact⟨e,h⟩
 exact⟨ok.sz,ok.df,ok.tm,ok.bel,ok.fw,ok.f0,ok.f1,fun i ob h=>ok.ob i ob (hl i ob h).2,fun i o x h=>ok.my i o x (hl i o h).2,fun i o i' o' x h h'=>ok.dj i o i' o' x (hl i o h).2 (hl i' o' h').2,fun i o x p u h=>ok.dF i o x p u (hl i o h).2⟩
theorem drop_look {σ:St} {k i:Nat} {ob:AO} (h:look i (σ.drop k).M=some ob):i≠k∧look i σ.M=some ob:=by
 rw [show look i (σ.drop k).M=_ from look_rem k i σ.M]at h
 by_cases e:i=k
 ·rw [if_pos e]at h;cases h
 ·rw [if_neg e]at h;exact⟨e,h⟩
theorem Ok.newObj (ok:Ok C σ G a w) {S:Nat→Prop} {b n:Nat} {h:Value} {φ:Nat→Prop} {ob:AO} (hb:Kept S w w') (hS:∀ x,S x→C.may x) (hw:∀ k o x,look k σ.M=some o→G.fp k x→¬ S x) (hF:∀ p u,G.F p=some u→¬ S p.block)
  (hob:ObAt (G.with σ.nk b n h φ) w' σ.nk ob) (hbd:ob.bd (σ.nk+1)) (hφ:∀ x,φ x→C.may x∧x<w'.heap.size∧(∀ k o,look k σ.M=some o→¬ G.fp k x)∧∀ p u,G.F p=some u→p.block≠x) :
  Ok C (σ.new ob) (G.with σ.nk b n h φ) a w':=by
 have hle:=G.with_le σ.nk b n h φ
 have hfp:=G.with_fp σ.nk b n h φ
 have hbl:∀ p u,G.F p=some u→w'.heap[p.block]?=w.heap[p.block]?:=fun p u x=>hb.block _ (cell_block (ok.fw p u x)) (hF p u x)
 have ok1:Ok C σ (G.with σ.nk b n h φ) a w':=ok.world hle hfp hb hS (fun k o x h1 h2=>hb.block x (ok.my k o x h1 h2).2 (hw k o x h1 h2)) (fun p u x=>(World.cell?_of_block (hbl p u x)).trans (ok.fw p u x)) (fun _ _ x=>.inl x)
 refine ok1.add hob hbd fun x hx=>?_
 have e2:(G.with σ.nk b n h φ).fp σ.nk=φ:=if_pos rfl
 rw [e2] at hx
 refine ⟨(hφ x hx).1,(hφ x hx).2.1,fun k o h1=>?_,(hφ x hx).2.2.2⟩
 rw [hfp k (ok.ob k o h1).1]
 exact (hφ x hx).2.2.1 k o h1
theorem RowIs.rd {T n:Nat} {rows:List (List AV)} {v:Value} {φ:Nat→Prop} {X:Nat→Nat→(Nat→Prop)→AV→Value→Prop} (h:RowIs w T n rows v φ X) :
  ∃ A c,∃ vs:List (List Value),∃ Φ:Nat→Nat→Nat→Prop,v=.slice A vs.length c∧vs.length=rows.length∧Rd w w.heap.size n A vs∧(∀ r∈vs,r.length=n)∧(∀ r∈vs,∀ u∈r,u.oneCell'=true) ∧
   (∀ (i:Nat) r r',rows[i]?=some r→vs[i]?=some r'→r'.length=r.length)∧(∀ i j x,Φ i j x→φ x∧v.ownBlock≠some x)∧(∀ i j i' j' x,Φ i j x→Φ i' j' x→i=i'∧j=j') ∧
   ∀ (i:Nat) r r' (j:Nat) av u,rows[i]?=some r→vs[i]?=some r'→r[j]?=some av→r'[j]?=some u→X i j (Φ i j) av u:=by
 obtain ⟨hrl,vs,Φ,h4,h5,h7,hgf,hΦ,hΦd,h8,h6⟩:=h
 have hvl:∀ r∈vs,r.length=n:=by
  intro r' hr'
  obtain ⟨q,hq,rfl⟩:=List.getElem_of_mem hr'
  have:=h8 q rows[q] vs[q] (List.getElem?_eq_getElem (by omega)) (List.getElem?_eq_getElem hq)
  rw [this];exact hrl _ (List.getElem_mem _)
 obtain ⟨A,c,hA,hrd,_,_⟩:=rd_of_own h4 hvl rfl rfl
 exact ⟨A,c,vs,Φ,hA,h5,hrd,hvl,h7,h8,hΦ,hΦd,h6⟩
theorem Ok.src_ (ok:Ok C σ G a w) {n:Nat} {av:AV} {rows:List (List AV)} {v:Value} (hs:σ.src n av=some rows) (r:R G av v) :
  ∃ A c,∃ l:List (List Value),v=.slice A rows.length c∧l.length=rows.length∧Rd w w.heap.size n A l∧(∀ r∈l,r.length=n)∧(∀ r∈l,∀ u∈r,u.oneCell'=true)∧(∀ r∈rows,r.length=n)∧∀ (i:Nat) r r',rows[i]?=some r→l[i]?=some r'→RL G.F r r':=by
 cases av with
 | ls m rows' =>
  simp only [St.src] at hs
  cases hmn:Nat.beq m n && Nat.blt 0 m with
  | true =>
   rw [hmn] at hs
   simp only [Bool.and_eq_true] at hmn
   have e:=Nat.eq_of_beq_eq_true hmn.1
   have h0:=of_blt hmn.2
   subst e
   cases hs
   obtain ⟨A,cap,ad,u,rfl,h1,h2,h3,h4,_⟩:=r.pu_of.ls_of
   have key:∀ (i:Nat) r',((List.range rows.length).map fun i=>(List.range m).map (u i))[i]?=some r'→∃ hi:i<rows.length,r'=(List.range m).map (u i):=fun i r' h=>by
    have hi:i<rows.length:=by simpa using(List.getElem?_eq_some_iff.1 h).1
    simp [hi] at h
    exact ⟨hi,h.symm⟩
   refine ⟨A,cap,(List.range rows.length).map fun i=>(List.range m).map (u i),rfl,by simp,fun hp=>⟨ad,h2 (by simpa using hp),?_,fun k r' hr' j x hx=>?_⟩,?_,?_,h1,fun i r r' hr hr'=>?_⟩
   ·have hp:0<rows.length:=by simpa using hp
    have hr0:rows[0]?=some rows[0]:=List.getElem?_eq_getElem hp
    have hl0:0<(rows[0]'hp).length:=by rw [h1 _ (List.getElem_mem hp)];exact h0
    have:=h3 0 rows[0] 0 (rows[0]'hp)[0] hr0 (List.getElem?_eq_getElem hl0)
    have:=cell_block (ok.fw _ _ this.1)
    rwa [block_of_add] at this
   ·obtain ⟨hi,rfl⟩:=key k r' hr'
    have hj:j<m:=by simpa using(List.getElem?_eq_some_iff.1 hx).1
    simp [hj] at hx
    have hlen:=h1 _ (List.getElem_mem hi)
    rw [← hx]
    exact ok.fw _ _ (h3 k rows[k] j _ (List.getElem?_eq_getElem hi) (List.getElem?_eq_getElem (by omega))).1
   ·intro r' hr'
    obtain ⟨q,hq,rfl⟩:=List.getElem_of_mem hr'
    simp
   ·intro r' hr' x hx
    obtain ⟨q,hq,rfl⟩:=List.getElem_of_mem hr'
    obtain ⟨hi,e⟩:=key q _ (List.getElem?_eq_getElem hq)
    rw [e] at hx
    obtain ⟨j,hj,rfl⟩:=List.mem_map.1 hx
    have hj:j<m:=by simpa using hj
    have hlen:=h1 _ (List.getElem_mem hi)
    exact (h3 q rows[q] j _ (List.getElem?_eq_getElem hi) (List.getElem?_eq_getElem (by omega))).2
   ·obtain ⟨hi,rfl⟩:=key i r' hr'
    have hlen:=h1 _ (List.mem_of_getElem? hr)
    refine ⟨by simp [hlen],fun j av x hav hx=>?_⟩
    have hj:j<m:=by simpa using(List.getElem?_eq_some_iff.1 hx).1
    simp [hj] at hx
    rw [← hx]
    exact h4 i r j av hr hav
  | false=>rw [hmn] at hs;cases hs
 | sl k =>
  simp only [St.src] at hs
  cases hk:look k σ.M with
  | none=>simp [hk] at hs
  | some ob =>
   cases ob with
   | box T cells=>simp [hk] at hs
   | rwn T m rows'=>simp [hk] at hs
   | rof T m rows' hi hj y=>simp [hk] at hs
   | rwo T m rows' hi hj y=>simp [hk] at hs
   | bld T e l=>simp [hk] at hs
   | opq q=>simp [hk] at hs
   | row T m rows' =>
    simp only [hk] at hs
    cases hmn:Nat.beq m n && Nat.blt 0 m with
    | true =>
     rw [hmn] at hs
     simp only [Bool.and_eq_true] at hmn
     have e:=Nat.eq_of_beq_eq_true hmn.1
     subst e
     cases hs
     have hob:=(ok.ob k _ hk).2.2
     obtain ⟨hn,hg,hR⟩:=hob
     obtain ⟨A,c,vs,Φ,hA,h5,hrd,hvl,h7,h8,_,_,h6⟩:=hR.rd
     exact ⟨A,c,vs,by rw [r.sl_of.1,hA,h5],h5,hrd,hvl,h7,hR.1,fun i r r' hr hr'=>⟨h8 i r r' hr hr',fun j av u hav hu=>h6 i r r' j av u hr hr' hav hu⟩⟩
    | false=>rw [hmn] at hs;cases hs
 | _=>cases hs
theorem RowIs.app {T e n by_:Nat} {z:Value} {i:TypeInfo} {ty:TypeId} {rows rows2:List (List AV)} {v:Value} {φ φ2:Nat→Prop} {Y:World→(Nat→Prop)→AV→Value→Prop} (h:RowIs w e n rows v φ (fun _ _=>Y w)) (hT:P.underlying T=some (.slice e))
  (hi:P.info? e=some i) (hz:i.zero=some z) (hn:i.size=n) (hby:i.bytes=by_) (hzs:z.cells.size=n) (h0:0<n) {A:Option Addr} {c:Nat} {l:List (List Value)} {Ψ:Nat→Nat→Nat→Prop}
  (hrd:Rd w w.heap.size n A l) (hl:l.length=rows2.length) (hll:∀ r∈l,r.length=n) (hl1:∀ r∈l,∀ u∈r,u.oneCell'=true) (hrl2:∀ r∈rows2,r.length=n)
  (hlen2:∀ (i:Nat) r r',rows2[i]?=some r→l[i]?=some r'→r'.length=r.length) (hΨ:∀ i j x,Ψ i j x→φ2 x) (hΨd:∀ i j i' j' x,Ψ i j x→Ψ i' j' x→i=i'∧j=j') (hdj:∀ x,φ x→φ2 x→False) (hlt:∀ x,φ x∨φ2 x→x<w.heap.size)
  (hrel2:∀ (i:Nat) r r' (j:Nat) av u,rows2[i]?=some r→l[i]?=some r'→r[j]?=some av→r'[j]?=some u→Y w (Ψ i j) av u)
  (hY:∀ w' ψ av u,(∀ x,ψ x→w'.heap[x]?=w.heap[x]?)→Y w ψ av u→Y w' ψ av u) (hb1:rows.length+rows2.length≤1000000000) (hb2:by_≤100000) :
  ∃ v' w',(Builtin.append_ #[T,T] ty #[v,.slice A l.length c]).run P w=.ok v' w'∧w.grownBy w' v.ownBlock∧(v'.ownBlock=v.ownBlock∨v'.ownBlock=some w.heap.size)∧v'.oneCell'=true ∧
   RowIs w' e n (rows++rows2) v' (fun x=>v'.ownBlock=some x∨φ x∨φ2 x) (fun _ _=>Y w'):=by
 obtain ⟨hrl,vs,Φ,h4,h5,h7,hgf,hΦ,hΦd,h8,h6⟩:=h
 obtain ⟨v',w',hrun,q1,q2,q3⟩:=run_append_rd (P:=P) (A:=A) (l:=l) 0 T ty e i z n by_ hT hi hz hn hby hzs h0 v vs.length vs.flatten h4 c hrd hll hl1 (by rw [h5,hl];unfold maxLen;omega) (by rw [h5,hl];exact Nat.le_trans (Nat.mul_le_mul hb1 hb2) (by decide)) (Nat.zero_le _)
 have hone:v'.oneCell'=true:=by rcases q1.2 with⟨e,_⟩|⟨g,cap,cur,e,_⟩<;>rw [e]<;>rfl
 have hno:∀ i j x,Φ i j x→some x≠v'.ownBlock:=fun i j x hx e=>by
  have:=hlt x (.inl (hΦ i j x hx).1)
  rcases q3 with q|q
  ·exact (hΦ i j x hx).2 (q.symm.trans e.symm)
  ·rw [q] at e;cases e;omega
 have hno2:∀ i j x,Ψ i j x→some x≠v'.ownBlock:=fun i j x hx e=>by
  have:=hlt x (.inr (hΨ i j x hx))
  rcases q3 with q|q
  ·exact hdj x (hgf x (q.symm.trans e.symm)) (hΨ i j x hx)
  ·rw [q] at e;cases e;omega
 refine ⟨v',w',hrun,q2,q3,hone,fun r hr=>(List.mem_append.1 hr).elim (hrl r) (hrl2 r),vs++l,fun i j x=>if i<rows.length then Φ i j x else Ψ (i-rows.length) j x,?_,by rw [List.length_append,List.length_append,h5,hl],
  fun r hr=>(List.mem_append.1 hr).elim (h7 r) (hl1 r),fun g hg=>.inl hg,fun i j x hx=>?_,fun i j i' j' x h1 h2=>?_,fun j r r' hr hr'=>?_,fun j r r' s av u hr hr' hs hu=>?_⟩
 ·rw [List.length_append,List.flatten_append];exact q1
 ·have hx:if i<rows.length then Φ i j x else Ψ (i-rows.length) j x:=hx
  by_cases hi:i<rows.length
  ·rw [if_pos hi] at hx
   exact ⟨.inr (.inl (hΦ i j x hx).1),fun e=>hno i j x hx e.symm⟩
  ·rw [if_neg hi] at hx
   exact ⟨.inr (.inr (hΨ _ j x hx)),fun e=>hno2 _ j x hx e.symm⟩
 ·have h1:if i<rows.length then Φ i j x else Ψ (i-rows.length) j x:=h1
  have h2:if i'<rows.length then Φ i' j' x else Ψ (i'-rows.length) j' x:=h2
  by_cases hi:i<rows.length<;>by_cases hi':i'<rows.length
  ·rw [if_pos hi] at h1;rw [if_pos hi'] at h2;exact hΦd i j i' j' x h1 h2
  ·rw [if_pos hi] at h1;rw [if_neg hi'] at h2;exact (hdj x (hΦ i j x h1).1 (hΨ _ j' x h2)).elim
  ·rw [if_neg hi] at h1;rw [if_pos hi'] at h2;exact (hdj x (hΦ i' j' x h2).1 (hΨ _ j x h1)).elim
  ·rw [if_neg hi] at h1;rw [if_neg hi'] at h2
   obtain ⟨e1,e2⟩:=hΨd _ j _ j' x h1 h2
   exact ⟨by omega,e2⟩
 ·by_cases hj:j<rows.length
  ·rw [List.getElem?_append_left hj] at hr
   rw [List.getElem?_append_left (by omega)] at hr'
   exact h8 j r r' hr hr'
  ·rw [List.getElem?_append_right (by omega)] at hr
   rw [List.getElem?_append_right (by omega),h5] at hr'
   exact hlen2 _ r r' hr hr'
 ·have go:∀ ψ:Nat→Prop,(∀ x,ψ x→x<w.heap.size∧some x≠v.ownBlock)→Y w ψ av u→Y w' ψ av u:=fun ψ hψ y=>hY w' ψ av u (fun x hx=>q2.block x (hψ x hx).1 (hψ x hx).2) y
  by_cases hj:j<rows.length
  ·rw [List.getElem?_append_left hj] at hr
   rw [List.getElem?_append_left (by omega)] at hr'
   have e:(fun x=>if j<rows.length then Φ j s x else Ψ (j-rows.length) s x)=Φ j s:=by funext x;rw [if_pos hj]
   show Y w' (fun x=>if j<rows.length then Φ j s x else Ψ (j-rows.length) s x) av u
   rw [e]
   exact go _ (fun x hx=>⟨hlt x (.inl (hΦ _ _ x hx).1),fun e=>(hΦ _ _ x hx).2 e.symm⟩) (h6 j r r' s av u hr hr' hs hu)
  ·rw [List.getElem?_append_right (by omega)] at hr
   rw [List.getElem?_append_right (by omega),h5] at hr'
   have e:(fun x=>if j<rows.length then Φ j s x else Ψ (j-rows.length) s x)=Ψ (j-rows.length) s:=by funext x;rw [if_neg hj]
   show Y w' (fun x=>if j<rows.length then Φ j s x else Ψ (j-rows.length) s x) av u
   rw [e]
   exact go _ (fun x hx=>⟨hlt x (.inr (hΨ _ _ x hx)),fun e=>hdj x (hgf x e.symm) (hΨ _ _ x hx)⟩) (hrel2 _ r r' s av u hr hr' hs hu)
theorem run_appendO {x y:Operand} {T:TypeId} {A:Option Addr} {len c:Nat} {v v':Value} {N:Act→World→Prop} {Q':Exit→Act→World→Prop} (ho:o.op=.call { callee:=.builtin .append,args:=#[x,y],argTypes:=#[T,T] })(ex:a.eval x=v)(ey:a.eval y=.slice A len c)
  (hrun:(Builtin.append_ #[T,T] o.type #[v,.slice A len c]).run P w=.ok v' w')(hN:N (a.put o.dst v') w'):o.wp P a w N Q':=by
 unfold Oper.wp execOp
 have hargs:(#[x,y]:Array Operand).map a.eval=#[v,.slice A len c]:=by simp [ex,ey]
 simp only [ho,resolve,invoke,builtin,Sem.run_bind,Sem.run_pure,Result.andThen_ok,hargs,hrun,Oper.upon]
 exact hN
theorem Ok.joined (ok:Ok C σ G a w) {k:Nat} {ob ob':AO} {n:Nat} {v v':Value} {φ2:Nat→Prop} {gone:List Nat} {σd:St} (okd:Ok C σd G a w) (hd:∀ i o,look i σd.M=some o→i≠k∧look i σ.M=some o∧¬ i∈gone) (hnk:σd.nk=σ.nk)
  (hk:look k σ.M=some ob) (hv:∀ x,v.ownBlock=some x→G.fp k x) (hφ2:∀ x,φ2 x→∃ q o,q∈gone∧look q σ.M=some o∧G.fp q x)
  (hg:w.grownBy w' v.ownBlock) (hv':v'.ownBlock=v.ownBlock∨v'.ownBlock=some w.heap.size) (hvs:∀ x,v'.ownBlock=some x→x<w'.heap.size)
  (hob:ObAt (G.with σd.nk (v'.ownBlock.getD 0) n v' (fun x=>v'.ownBlock=some x∨G.fp k x∨φ2 x)) w' σd.nk ob') (hbd:ob'.bd (σd.nk+1)) :
  Ok C (σd.new ob') (G.with σd.nk (v'.ownBlock.getD 0) n v' (fun x=>v'.ownBlock=some x∨G.fp k x∨φ2 x)) a w':=by
 refine okd.newObj (S:=fun x=>v.ownBlock=some x) ⟨hg.os,hg.tape,hg.output,hg.size,fun x h1 h2=>hg.block x h1 fun e=>h2 e.symm⟩ (fun x hx=>(ok.my k _ x hk (hv x hx)).1)
  (fun i o x h1 h2 h3=>(hd i o h1).1 (ok.dj i o k ob x (hd i o h1).2.1 hk h2 (hv x h3))) (fun p u h1 h2=>ok.dF k ob _ p u hk (hv _ h2) h1 rfl) hob hbd fun x hx=>?_
 have old:∀ q o x,look q σ.M=some o→G.fp q x→(q=k∨q∈gone)→C.may x∧x<w'.heap.size∧(∀ i o,look i σd.M=some o→¬ G.fp i x)∧∀ p u,G.F p=some u→p.block≠x:=fun q o x h1 h2 h3 =>
  ⟨(ok.my q o x h1 h2).1,Nat.lt_of_lt_of_le (ok.my q o x h1 h2).2 hg.size,fun i oi hi h4=>by
   obtain ⟨d1,d2,d3⟩:=hd i oi hi
   have:=ok.dj i oi q o x d2 h1 h4 h2
   rcases h3 with h3|h3
   ·exact d1 (this.trans h3)
   ·exact d3 (this ▸ h3),fun p u=>ok.dF q o x p u h1 h2⟩
 rcases hx with hx|hx|hx
 ·rcases hv' with e|e
  ·exact old k ob x hk (hv x (e.symm.trans hx)) (.inl rfl)
  ·have hxx:x=w.heap.size:=by rw [e] at hx;exact (Option.some.inj hx).symm
   refine ⟨.inl (by rw [hxx];exact ok.bel.size),hvs x hx,fun i o h1 h2=>?_,fun p u h1 h2=>?_⟩
   ·have:=(ok.my i o x (hd i o h1).2.1 h2).2;omega
   ·have:=cell_block (ok.fw p u h1);omega
 ·exact old k ob x hk hx (.inl rfl)
 ·obtain ⟨q,o,h1,h2,h3⟩:=hφ2 x hx
  exact old q o x h2 h3 (.inr h1)
theorem RowIs.lt {T n:Nat} {rows:List (List AV)} {v:Value} {φ:Nat→Prop} {X:Nat→Nat→(Nat→Prop)→AV→Value→Prop} (h:RowIs w T n rows v φ X):∀ x,v.ownBlock=some x→x<w.heap.size:=fun x hx=>by
 obtain⟨_,vs,Φ,h4,_⟩:=h
 rcases h4.2 with⟨e,_⟩|⟨g,cap,cur,e,_,hh,_⟩
 ·rw [e]at hx;cases hx
 ·rw [e]at hx
  obtain rfl:g=x:=Option.some.inj hx
  exact (Array.getElem?_eq_some_iff.1 hh).1
theorem RowIs.fp {T n:Nat} {rows:List (List AV)} {v:Value} {φ:Nat→Prop} {X:Nat→Nat→(Nat→Prop)→AV→Value→Prop} (h:RowIs w T n rows v φ X):∀ x,v.ownBlock=some x→φ x:=by
 obtain⟨_,vs,Φ,h4,_,_,h7,_⟩:=h
 exact h7
theorem with_h {G:Gh} {k b n:Nat} {v:Value} {φ:Nat→Prop}:(G.with k b n v φ).h k=v:=if_pos rfl
theorem with_b {G:Gh} {k b n:Nat} {v:Value} {φ:Nat→Prop}:(G.with k b n v φ).b k=b:=if_pos rfl
theorem with_n {G:Gh} {k b n:Nat} {v:Value} {φ:Nat→Prop}:(G.with k b n v φ).n k=n:=if_pos rfl
theorem with_sl {G:Gh} {k b n:Nat} {v:Value} {φ:Nat→Prop} (h:v.oneCell'=true):R (G.with k b n v φ) (.sl k) v:=by
 have:=R.sl (G:=G.with k b n v φ) k (by rw [with_h];exact h)
 rwa [with_h] at this
theorem with_f {G:Gh} {k b n:Nat} {v:Value} {φ:Nat→Prop}:(G.with k b n v φ).fp k=φ:=if_pos rfl
theorem WO.append {T e n by_ k m:Nat} {z:Value} {i:TypeInfo} {x y:Operand} {rows rows2 rows':List (List AV)} {av2:AV} (ho:o.op=.call { callee:=.builtin .append,args:=#[x,y],argTypes:=#[T,T] }) (hT:P.underlying T=some (.slice e))
  (hi:P.info? e=some i) (hz:i.zero=some z) (hn:i.size=n) (hby:i.bytes=by_) (hzs:z.cells.size=n) (h0:Nat.blt 0 n=true) (hds:o.dst=some d) (hd:Nat.blt d C.N=true)
  (hx:σ.ev x=some (.sl k)) (hk:look k σ.M=some (.row e n rows)) (hy:σ.ev y=some av2) (hs:σ.src n av2=some rows2) (hm:σ.nk=m) (hb1:rows.length+rows2.length≤1000000000) (hb2:Nat.ble by_ 100000=true) (hrr:rows++rows2=rows') :
  WO P C o σ (((σ.drop k).new (.row e n rows')).put d (.sl m)):=by
 intro G a w ok N Q' hN
 obtain ⟨A,c,l,ey,hl,hrd,hll,hl1,hrl2,hrel2⟩:=ok.src_ hs (ok.evr hy).2
 obtain ⟨hn',hg,hR⟩:=(ok.ob k _ hk).2.2
 obtain ⟨v',w',hrun,q2,q3,hone,hR'⟩:=RowIs.app (P:=P) (ty:=o.type) (c:=c) (Y:=fun _ _ av u=>RP G.F av u) (φ2:=fun _=>False) (Ψ:=fun _ _ _=>False) hR hT hi hz hn hby hzs (of_blt h0) hrd hl hll hl1 hrl2 (fun i r r' a b=>(hrel2 i r r' a b).1) (fun _ _ _ h=>h) (fun _ _ _ _ _ h=>h.elim) (fun _ _ h=>h)
  (fun x hx=>hx.elim (fun h=>(ok.my k _ x hk h).2) False.elim) (fun i r r' j av u a b c d=>(hrel2 i r r' a b).2 j av u c d) (fun _ _ _ _ _ h=>h) hb1 (Nat.le_of_ble_eq_true hb2)
 rw [← hl] at ey
 have ok':=ok.joined (gone:=[]) (n:=n) (v':=v') (φ2:=fun _=>False) (ob':=.row e n rows') (okd:=ok.drop_ k) (fun i o h=>⟨(drop_look h).1,(drop_look h).2,by simp⟩) rfl hk hR.fp (fun x h=>h.elim) q2 q3 hR'.lt
  ⟨with_n,(fun g hg=>by rw [with_h] at hg;rw [with_b,hg];rfl),by rw [with_h,with_f,← hrr];exact hR'⟩ trivial
 refine run_appendO ho (ok.evr hx).2.sl_of.1 ey hrun ?_
 rw [hds]
 subst hm
 exact hN _ _ _ (ok'.set (d:=some d) (av:=.sl σ.nk) (v:=v') (by have:=R.sl (G:=G.with σ.nk (v'.ownBlock.getD 0) n v' (fun x=>v'.ownBlock=some x∨G.fp k x∨False)) σ.nk (by rw [with_h];exact hone);rw [with_h] at this;exact this) (.sl _ (Nat.lt_succ_self _)) fun x hx=>by cases hx;exact of_blt hd)
theorem WO.appendM {T e n by_ k q m:Nat} {z:Value} {i:TypeInfo} {x y:Operand} {rows rows2 rows':List (List AV)} {e2:TypeId} (ho:o.op=.call { callee:=.builtin .append,args:=#[x,y],argTypes:=#[T,T] }) (hT:P.underlying T=some (.slice e))
  (hi:P.info? e=some i) (hz:i.zero=some z) (hn:i.size=n) (hby:i.bytes=by_) (hzs:z.cells.size=n) (h0:Nat.blt 0 n=true) (hds:o.dst=some d) (hd:Nat.blt d C.N=true)
  (hx:σ.ev x=some (.sl k)) (hk:look k σ.M=some (.rwn e n rows)) (hy:σ.ev y=some (.sl q)) (hq:look q σ.M=some (.rwn e2 n rows2)) (hkq:Nat.beq k q=false) (hm:σ.nk=m) (hb1:rows.length+rows2.length≤1000000000) (hb2:Nat.ble by_ 100000=true) (hrr:rows++rows2=rows') :
  WO P C o σ ((((σ.drop k).drop q).new (.rwn e n rows')).put d (.sl m)):=by
 intro G a w ok N Q' hN
 have hkq':k≠q:=fun e=>by rw [e,Nat.beq_refl] at hkq;cases hkq
 obtain ⟨hn',hg,hR⟩:=(ok.ob k _ hk).2.2
 obtain ⟨hn2,hg2,hR2⟩:=(ok.ob q _ hq).2.2
 obtain ⟨A,c,l,Ψ,hA,hl,hrd,hll,hl1,hlen,hΨ,hΨd,hrel2⟩:=hR2.rd
 have ey:a.eval y=.slice A l.length c:=(ok.evr hy).2.sl_of.1.trans hA
 obtain ⟨v',w',hrun,q2,q3,hone,hR'⟩:=RowIs.app (P:=P) (ty:=o.type) (c:=c) (Y:=fun w ψ av u=>OW G.F w av u ψ) (φ2:=G.fp q) (Ψ:=Ψ) hR hT hi hz hn hby hzs (of_blt h0) hrd hl hll hl1 hR2.1 hlen (fun i j x h=>(hΨ i j x h).1) hΨd (fun x h1 h2=>hkq' (ok.dj k _ q _ x hk hq h1 h2))
  (fun x hx=>hx.elim (fun h=>(ok.my k _ x hk h).2) fun h=>(ok.my q _ x hq h).2) hrel2 (fun _ _ _ _ hw h=>h.keep (fun _ _ h=>h) hw) hb1 (Nat.le_of_ble_eq_true hb2)
 have ok':=ok.joined (gone:=[q]) (n:=n) (v':=v') (φ2:=G.fp q) (ob':=.rwn e n rows') (okd:=(ok.drop_ k).drop_ q) (fun i o h=>⟨(drop_look (drop_look h).2).1,(drop_look (drop_look h).2).2,by simp;exact (drop_look h).1⟩) rfl hk hR.fp (fun x h=>⟨q,_,by simp,hq,h⟩) q2 q3 hR'.lt
  ⟨with_n,(fun g hg=>by rw [with_h] at hg;rw [with_b,hg];rfl),by rw [with_h,with_f,← hrr];exact hR'⟩ trivial
 refine run_appendO ho (ok.evr hx).2.sl_of.1 ey hrun ?_
 rw [hds]
 subst hm
 exact hN _ _ _ (ok'.set (d:=some d) (av:=.sl σ.nk) (v:=v') (by have:=R.sl (G:=G.with σ.nk (v'.ownBlock.getD 0) n v' (fun x=>v'.ownBlock=some x∨G.fp k x∨G.fp q x)) σ.nk (by rw [with_h];exact hone);rw [with_h] at this;exact this) (.sl _ (Nat.lt_succ_self _)) fun x hx=>by cases hx;exact of_blt hd)
theorem Ok.nilRow (ok:Ok C σ G a w) (T:TypeId) (n:Nat):∃ G',Ok C (σ.new (.row T n [])) G' a w∧R G' (.sl σ.nk) (.slice none 0 0) :=
 ⟨_,ok.newObj (S:=fun _=>False) (b:=0) (n:=n) (h:=.slice none 0 0) (φ:=fun _=>False) (ob:=.row T n []) (Kept.refl _ w) (fun _ h=>h.elim) (fun _ _ _ _ _ h=>h) (fun _ _ _ h=>h)
  ⟨with_n,(fun g hg=>by rw [with_h] at hg;cases hg),by
   rw [with_h,with_f]
   exact ⟨by simp,[],fun _ _ _=>False,⟨by simp,.inl ⟨rfl,rfl⟩⟩,rfl,by simp,(fun g hg=>by cases hg),fun _ _ _ h=>h.elim,fun _ _ _ _ _ h=>h.elim,fun i r r' h=>by simp at h,fun i r r' j av u h=>by simp at h⟩⟩ trivial (fun x h=>h.elim),with_sl rfl⟩
theorem Ok.reslot (ok:Ok C σ G a w) {t:Tmp} {av av':AV} (h:look t σ.t=some av)(hb:Bd σ.nk av')(hr:∀ v,R G av v→R G av' v):Ok C (σ.put t av') G a w:=by
 have h1:=ok.tm t _ h
 refine⟨ok.sz,ok.df,fun i x hx=>?_,ok.bel,ok.fw,ok.f0,ok.f1,ok.ob,ok.my,ok.dj,ok.dF⟩
 by_cases e:i=t
 ·subst e
  rw [show look i (St.put σ i av').t=some av' from look_set_same] at hx
  cases hx
  exact⟨h1.1,hb,hr _ h1.2.2⟩
 ·rw [show look i (St.put σ t av').t=look i σ.t from look_set_other e] at hx
  exact ok.tm i x hx
theorem Ok.reob (ok:Ok C σ G a w) {k:Nat} {ob ob':AO} (hk:look k σ.M=some ob) (h:k<σ.nk∧ob'.bd σ.nk∧ObAt G w k ob'):Ok C (σ.upd k ob') G a w:=by
 have hl:∀ k' o,look k' (σ.upd k ob').M=some o→(k'=k∧o=ob')∨look k' σ.M=some o:=fun k' o hx=>by
  by_cases e:k'=k
  ·subst e
   rw [show look k' (σ.upd k' ob').M=some ob' from look_set_same] at hx
   cases hx
   exact .inl ⟨rfl,rfl⟩
  ·rw [show look k' (σ.upd k ob').M=look k' σ.M from look_set_other e] at hx
   exact .inr hx
 have some_:∀ k' o,look k' (σ.upd k ob').M=some o→∃ o',look k' σ.M=some o':=fun k' o h=>by
  rcases hl k' o h with⟨rfl,_⟩|y
  ·exact ⟨_,hk⟩
  ·exact ⟨o,y⟩
 refine ⟨ok.sz,ok.df,ok.tm,ok.bel,ok.fw,ok.f0,ok.f1,fun k' o h'=>?_,fun k' o x h1 h2=>?_,fun k1 o1 k2 o2 x h1 h2=>?_,fun k1 o1 x p u h1=>?_⟩
 ·rcases hl k' o h' with⟨rfl,rfl⟩|y
  ·exact h
  ·exact ok.ob k' o y
 ·obtain ⟨o',y⟩:=some_ k' o h1
  exact ok.my k' o' x y h2
 ·obtain ⟨o1',y1⟩:=some_ k1 o1 h1
  obtain ⟨o2',y2⟩:=some_ k2 o2 h2
  exact ok.dj k1 o1' k2 o2' x y1 y2
 ·obtain ⟨o1',y1⟩:=some_ k1 o1 h1
  exact ok.dF k1 o1' x p u y1
theorem Tr.nil {t:Tmp} {m:Nat} (T:TypeId)(n:Nat)(h:look t σ.t=some (.sc (.slice none 0 0)))(hm:σ.nk=m):Tr C σ ((σ.new (.row T n [])).put t (.sl m)):=fun G a w ok=>by
 obtain⟨G',ok',hsl⟩:=ok.nilRow T n
 subst hm
 exact⟨G',ok'.reslot (av:=.sc (.slice none 0 0)) h (.sl _ (Nat.lt_succ_self _)) fun v hv=>by rw [hv.sc_eq];exact hsl⟩
theorem Tr.widen (k:Nat) {T n:Nat} {rows:List (List AV)} (hk:look k σ.M=some (.row T n rows)):Tr C σ (σ.upd k (.rwn T n rows)):=fun G a w ok=>by
 obtain ⟨g1,g2,g3,g4,g5⟩:=ok.ob k _ hk
 exact ⟨G,ok.reob hk ⟨g1,trivial,g3,g4,g5.keep (fun _ _=>rfl) fun i r j av ψ u _ _ _ x=>.pu _ _ _ x⟩⟩
end
end
section
open Go.RowKit
def AV.frz0 (k n:Nat)(rows:List (List AV)):AV→AV
 | .sl q=>bif Nat.beq q k then .ls n rows else .sl q
 | av=>av
def AV.frz1 (k n:Nat)(rows:List (List AV)):AV→AV
 | .fn f l=>.fn f (l.map (AV.frz0 k n rows))
 | av=>av.frz0 k n rows
def AV.frz2 (k n:Nat)(rows:List (List AV)):AV→AV
 | .ag l=>.ag (l.map (AV.frz1 k n rows))
 | av=>av.frz1 k n rows
def AV.frz (k n:Nat)(rows:List (List AV)):AV→AV
 | .tu l=>.tu (l.map (AV.frz2 k n rows))
 | av=>av.frz2 k n rows
def AO.frz (k n:Nat)(rows:List (List AV)):AO→AO
 | .box T cells=>.box T (cells.map (AV.frz1 k n rows))
 | .rof T m rs hi hj x=>.rof T m rs hi hj (x.frz1 k n rows)
 | .rwo T m rs hi hj x=>.rwo T m rs hi hj (x.frz1 k n rows)
 | ob=>ob
def mapS {α β:Type} (f:α→β):List (Nat×α)→List (Nat×β)
 | []=>[]
 | x::r=>(x.1,f x.2)::mapS f r
theorem look_mapS {α β:Type} (f:α→β)(i:Nat):∀ (l:List (Nat×α)),look i (mapS f l)=(look i l).map f
 | []=>rfl
 | x::r=>by
  by_cases e:i=x.1
  ·subst e
   rw [show look x.1 (x::r)=some x.2 from look_set_same]
   exact look_set_same
  ·rw [show look i (x::r)=look i r from look_set_other e,← look_mapS f i r]
   exact look_set_other e
def St.freeze (σ:St) (k n:Nat) (rows:List (List AV)):St:=⟨mapS (AV.frz k n rows) σ.t,mapS (AO.frz k n rows) (rem k σ.M),σ.nk⟩
def AV.fz:Nat→AV→AV
 | d+1,.ow _ n rows=>.ls n (rows.map fun r=>r.map (AV.fz d))
 | _,av=>av
def AV.shal:Nat→AV→Bool
 | 0,.ow _ _ _=>false
 | d+1,.ow _ _ rows=>rows.all fun r=>r.all (AV.shal d)
 | _,_=>true
section
variable {P:Program} {C:Cx} {σ σ':St} {G G':Gh} {a:Act} {w w':World} {o:Oper} {d:Tmp}
theorem list_R {Q:AV→AV} {l:List AV} {cs:Array Value} (h1:cs.size=l.length)(h2:∀ (i:Nat) av u,l[i]?=some av→cs[i]?=some u→R G av u)(hq:∀ av u,R G av u→R G (Q av) u) :
  cs.size=(l.map Q).length∧∀ (i:Nat) av u,(l.map Q)[i]?=some av→cs[i]?=some u→R G av u:=by
 refine⟨by simpa using h1,fun i av u x y=>?_⟩
 rw [List.getElem?_map] at x
 cases hx:l[i]? with
 | none=>simp [hx] at x
 | some b=>simp [hx] at x;rw [← x];exact hq _ _ (h2 i b u hx y)
theorem list_bd {Q:AV→AV} {nk:Nat} {l:List AV} (h:∀ (i:Nat)x,l[i]?=some x→Bd nk x)(hq:∀ av,Bd nk av→Bd nk (Q av)):∀ (i:Nat)x,(l.map Q)[i]?=some x→Bd nk x:=fun i x hx=>by
 rw [List.getElem?_map]at hx
 cases hq':l[i]? with
 | none=>simp [hq']at hx
 | some y=>simp [hq']at hx;rw [← hx];exact hq _ (h i y hq')
section
variable {k n nk:Nat} {rows:List (List AV)} {av:AV} {v:Value}
theorem frz0_R (h:R G (.ls n rows) (G.h k)) (r:R G av v):R G (av.frz0 k n rows) v:=by
 cases av with
 | sl q =>
  simp only [AV.frz0]
  cases e:Nat.beq q k with
  | true=>obtain rfl:=Nat.eq_of_beq_eq_true e;rw [r.sl_of.1];exact h
  | false=>exact r
 | _=>exact r
theorem frz0_bd (b:Bd nk av):Bd nk (av.frz0 k n rows):=by
 cases av with
 | sl q =>
  simp only [AV.frz0]
  cases e:Nat.beq q k with
  | true=>exact .ls _ _
  | false=>exact b
 | _=>exact b
theorem frz1_R (h:R G (.ls n rows) (G.h k)) (r:R G av v):R G (av.frz1 k n rows) v:=by
 cases av with
 | fn f l =>
  obtain ⟨cs,rfl,h1,h2⟩:=r.fn_of
  obtain ⟨q1,q2⟩:=list_R h1 h2 fun _ _=>frz0_R h
  exact .fn f _ cs q1 q2
 | sl q=>exact frz0_R (av:=.sl q) h r
 | _=>exact r
theorem frz1_bd (b:Bd nk av):Bd nk (av.frz1 k n rows):=by
 cases av with
 | fn f l=>cases b with|fn _ _ hb=>exact .fn f _ (list_bd hb fun _=>frz0_bd)
 | sl q=>exact frz0_bd (av:=.sl q) b
 | _=>exact b
theorem frz2_R (h:R G (.ls n rows) (G.h k)) (r:R G av v):R G (av.frz2 k n rows) v:=by
 cases av with
 | ag l =>
  obtain ⟨cs,rfl,h1,h2⟩:=r.ag_of
  obtain ⟨q1,q2⟩:=list_R h1 h2 fun _ _=>frz1_R h
  exact .ag _ cs q1 q2
 | fn f l=>exact frz1_R (av:=.fn f l) h r
 | sl q=>exact frz0_R (av:=.sl q) h r
 | _=>exact r
theorem frz2_bd (b:Bd nk av):Bd nk (av.frz2 k n rows):=by
 cases av with
 | ag l=>cases b with|ag _ hb=>exact .ag _ (list_bd hb fun _=>frz1_bd)
 | fn f l=>exact frz1_bd (av:=.fn f l) b
 | sl q=>exact frz0_bd (av:=.sl q) b
 | _=>exact b
theorem frz_R (h:R G (.ls n rows) (G.h k)) (r:R G av v):R G (av.frz k n rows) v:=by
 cases av with
 | tu l =>
  obtain ⟨cs,rfl,h1,h2⟩:=r.tu_of
  obtain ⟨q1,q2⟩:=list_R h1 h2 fun _ _=>frz2_R h
  exact .tu _ cs q1 q2
 | ag l=>exact frz2_R (av:=.ag l) h r
 | fn f l=>exact frz1_R (av:=.fn f l) h r
 | sl q=>exact frz0_R (av:=.sl q) h r
 | _=>exact r
theorem frz_bd (b:Bd nk av):Bd nk (av.frz k n rows):=by
 cases av with
 | tu l=>cases b with|tu _ hb=>exact .tu _ (list_bd hb fun _=>frz2_bd)
 | ag l=>exact frz2_bd (av:=.ag l) b
 | fn f l=>exact frz1_bd (av:=.fn f l) b
 | sl q=>exact frz0_bd (av:=.sl q) b
 | _=>exact b
theorem frz1_C {φ:Nat→Prop} (h:R G (.ls n rows) (G.h k)) (r:CR G w φ av v):CR G w φ (av.frz1 k n rows) v:=by
 rcases r with r|o
 ·exact .inl (frz1_R h r)
 ·by_cases ho:av.own=true
  ·cases av with
   | ow T n rows=>exact .inr o
   | _=>cases ho
  ·exact .inl (frz1_R h (.pu _ _ (OW.p o (by simpa using ho))))
end
theorem RowIs.fix {T n:Nat} {rows:List (List AV)} {v:Value} {φ:Nat→Prop} {X:Nat→Nat→(Nat→Prop)→AV→Value→Prop} {F':View} (f:AV→AV) (h:RowIs w T n rows v φ X) (hF:∀ p,φ p.block→F' p=w.cell? p)
    (hX:∀ (i:Nat) r (j:Nat) av u ψ,rows[i]?=some r→r[j]?=some av→(∀ x,ψ x→φ x)→X i j ψ av u→RP F' (f av) u):RP F' (.ls n (rows.map fun r=>r.map f)) v:=by
  have hfp:=h.2
  obtain ⟨vs0,_,_,_,_,hgf,_⟩:=hfp
  obtain ⟨A,c,vs,Φ,hA,h5,hrd,hvl,h7,h8,hΦ,_,h6⟩:=h.rd
  have hrl:=h.1
  have h4:=h.2
  obtain ⟨vs1,Φ1,h4,h51,_⟩:=h4
  have hcap:rows.length≤c:=by
    rcases h4.2 with⟨e,e2⟩|⟨g,cap,cur,e,_,_,hnc,_⟩
    · omega
    · rw [e] at hA;injection hA with _ _ hA;omega
  have hgA:∀ ad,A=some ad→φ ad.block:=fun ad e=>by
    rcases h4.2 with⟨e1,e2⟩|⟨g,cap,cur,e1,_⟩
    · rw [e1,e] at hA;cases hA
    · rw [e1,e] at hA;injection hA with hA _ _;cases hA
      exact hgf g (by rw [e1];rfl)
  have hv:v=.slice A (rows.map fun r=>r.map f).length c:=by rw [hA,List.length_map,h5]
  rw [hv]
  by_cases hp:0<rows.length
  · obtain ⟨ad,had,_⟩:=hrd zqo
    refine .ls n _ A c ad (fun i j=>((vs.getD i []).getD j undef)) (by simpa using hcap) (fun r hr=>?_) (fun _=>had) (fun i r j av hr hav=>?_) (fun i r j av hr hav=>?_)
    · obtain ⟨r',hr',rfl⟩:=List.mem_map.1 hr
      rw [List.length_map];exact hrl _ hr'
    all_goals
      rw [List.getElem?_map] at hr
      cases hr0:rows[i]? with
      | none=>simp [hr0] at hr
      | some r0 =>
        simp only [hr0,Option.map_some,Option.some.injEq] at hr
        subst hr
        rw [List.getElem?_map] at hav
        cases hav0:r0[j]? with
        | none=>simp [hav0] at hav
        | some av0 =>
          simp only [hav0,Option.map_some,Option.some.injEq] at hav
          subst hav
          have hi:i<rows.length:=(List.getElem?_eq_some_iff.1 hr0).1
          have hv:vs[i]?=some vs[i]:=List.getElem?_eq_getElem (by omega)
          have e1:=h8 i r0 _ hr0 hv
          have hj:j<vs[i].length:=by rw [e1];exact (List.getElem?_eq_some_iff.1 hav0).1
          have hu:(vs.getD i []).getD j undef=vs[i][j]:=by simp [List.getD,hv,hj]
          simp only [hu]
          first
            | (refine ⟨?_,h7 _ (List.getElem_mem _) _ (List.getElem_mem _)⟩
               obtain ⟨ad',had',_,hc⟩:=Rd.at_ (k:=i) hrd zqo
               obtain rfl:ad'=ad:=by rw [had] at had';exact (Option.some.inj had').symm
               rw [hF _ (by rw [block_of_add];exact hgA _ had)]
               exact hc j _ (List.getElem?_eq_getElem hj))
            |exact hX i r0 j av0 _ _ hr0 hav0 (fun x hx=>(hΦ i j x hx).1) (h6 i r0 _ j av0 _ hr0 hv hav0 (List.getElem?_eq_getElem hj))
  · have h0:rows=[]:=List.eq_nil_of_length_eq_zero zqo
    subst h0
    exact .ls n [] A c ⟨0,0,none⟩ (fun _ _=>undef) (by simp) (by simp) (fun h=>absurd h (by simp)) (fun i r j av h=>by simp at h) (fun i r j av h=>by simp at h)
theorem fz_pu {d:Nat} {av:AV} (h:av.own=false):av.fz d=av:=by
 cases d<;>cases av<;>first|rfl|cases h
theorem OW.fix {F F':View} (hle:F.le F'):∀ (d:Nat) {av:AV} {v:Value} {φ:Nat→Prop},OW F w av v φ→(∀ p,φ p.block→F' p=w.cell? p)→av.shal d=true→RP F' (av.fz d) v
 | d,av,v,φ,h,hF,hs=>by
  by_cases ho:av.own=true
  ·cases av with
   | ow T n rows =>
    cases d with
    | zero=>cases hs
    | succ d =>
     refine RowIs.fix (AV.fz d) h.row hF fun i r j av u ψ hr hav hψ x=>?_
     have h1:(rows.all fun r=>r.all (AV.shal d))=true:=hs
     have h2:=List.all_eq_true.1 (List.all_eq_true.1 h1 r (List.mem_of_getElem? hr)) av (List.mem_of_getElem? hav)
     exact OW.fix hle d x (fun p hp=>hF p (hψ _ hp)) h2
   | _=>cases ho
  ·rw [fz_pu (by simpa using ho)]
   exact (h.p (by simpa using ho)).mono hle
theorem Tr.freezeG (k:Nat) {n:Nat} {rows':List (List AV)} {ob:AO} (hk:look k σ.M=some ob) (hls:∀ G w (F':View),ObAt G w k ob→G.F.le F'→(∀ p,G.fp k p.block→F' p=w.cell? p)→RP F' (.ls n rows') (G.h k)):Tr C σ (σ.freeze k n rows'):=fun G a w ok=>by
 obtain ⟨hkn,_,hob⟩:=ok.ob k _ hk
 classical
 let F':View:=fun p=>if G.fp k p.block then w.cell? p else G.F p
 have hF:G.F.le F':=fun p u h=>by
  show (if _ then _ else _)=_
  rw [if_neg (fun e=>ok.dF k _ p.block p u hk e h rfl)];exact h
 have hFn:∀ p u,F' p=some u→G.F p=some u∨(G.fp k p.block∧w.cell? p=some u):=fun p u h=>by
  have h:(if G.fp k p.block then w.cell? p else G.F p)=some u:=h
  by_cases e:G.fp k p.block
  ·rw [if_pos e] at h;exact .inr ⟨e,h⟩
  ·rw [if_neg e] at h;exact .inl h
 have hls:=hls G w F' hob hF (fun p hp=>if_pos hp)
 have hle:G.le { G with F:=F' } σ.nk:=⟨hF,fun _ _=>rfl,fun _ _=>rfl,fun _ _=>rfl⟩
 have hls':R { G with F:=F' } (.ls n rows') (({ G with F:=F' }:Gh).h k):=.pu _ _ hls
 have hl:∀ i ob,look i (σ.freeze k n rows').M=some ob→∃ ob0,i≠k∧look i σ.M=some ob0∧ob=ob0.frz k n rows':=fun i ob h=>by
  rw [show look i (σ.freeze k n rows').M=_ from look_mapS _ i _,look_rem] at h
  by_cases e:i=k
  ·rw [if_pos e] at h;cases h
  ·rw [if_neg e] at h
   cases hq:look i σ.M with
   | none=>simp [hq] at h
   | some ob0=>simp [hq] at h;exact ⟨ob0,e,rfl,h.symm⟩
 refine ⟨{ G with F:=F' },ok.sz,ok.df,fun i av h=>?_,ok.bel,fun p u h=>?_,fun p u h=>hF p u (ok.f0 p u h),fun p u h=>?_,fun i ob h=>?_,fun i o x h1 h2=>?_,?_,?_⟩
 ·rw [show look i (σ.freeze k n rows').t=_ from look_mapS _ i _] at h
  cases hq:look i σ.t with
  | none=>simp [hq] at h
  | some av0 =>
   simp [hq] at h
   obtain ⟨h1,h2,h3⟩:=ok.tm i av0 hq
   rw [← h]
   exact ⟨h1,frz_bd h2,frz_R hls' (h3.mono hle h2)⟩
 ·rcases hFn p u h with h|⟨_,h⟩
  ·exact ok.fw p u h
  ·exact h
 ·rcases hFn p u h with h|⟨h,_⟩
  ·exact ok.f1 p u h
  ·exact .inr (ok.my k _ _ hk h).1
 ·obtain ⟨ob0,e,h0,rfl⟩:=hl i ob h
  obtain ⟨g1,g2,g3⟩:=ok.ob i ob0 h0
  have g4:=g3.keep (w':=w) (G':={ G with F:=F' }) hle g1 g2 rfl (fun _ _=>rfl)
  refine ⟨g1,?_,?_⟩
  ·cases ob0 with
   | box T cells=>exact list_bd g2 fun _=>frz1_bd
   | rof T m rs hi hj y=>exact frz1_bd g2
   | rwo T m rs hi hj y=>exact frz1_bd g2
   | _=>exact g2
  ·cases ob0 with
   | box T cells =>
    obtain ⟨b1,cs,Φ,b2,b3,b4,b5,b6⟩:=g4
    refine ⟨b1,cs,Φ,b2,by simpa using b3,b4,b5,fun j av u x y=>?_⟩
    rw [List.getElem?_map] at x
    cases hq:cells[j]? with
    | none=>simp [hq] at x
    | some b=>simp [hq] at x;rw [← x];exact frz1_C hls' (b6 j b u hq y)
   | rof T m rs hi hj y =>
    obtain ⟨c1,c2,c3⟩:=g4
    refine ⟨c1,c2,c3.keep (fun _ _=>rfl) fun i r j av ψ u _ _ _ x=>?_⟩
    unfold XH at x ⊢
    by_cases e:i=hi∧j=hj
    ·rw [if_pos e] at x ⊢
     exact frz1_R hls' x
    ·rw [if_neg e] at x ⊢
     exact x
   | rwo T m rs hi hj y =>
    obtain ⟨c1,c2,c3⟩:=g4
    refine ⟨c1,c2,c3.keep (fun _ _=>rfl) fun i r j av ψ u _ _ _ x=>?_⟩
    unfold XQ at x ⊢
    by_cases e:i=hi∧j=hj
    ·rw [if_pos e] at x ⊢
     exact frz1_R hls' x
    ·rw [if_neg e] at x ⊢
     exact x
   | _=>exact g4
 ·obtain ⟨ob0,e,h0,rfl⟩:=hl i o h1
  exact ok.my i ob0 x h0 h2
 ·intro i o i' o' x h1 h2 h3 h4
  obtain ⟨ob0,e,h0,rfl⟩:=hl i o h1
  obtain ⟨ob0',e',h0',rfl⟩:=hl i' o' h2
  exact ok.dj i ob0 i' ob0' x h0 h0' h3 h4
 ·intro i o x p u h1 h2 h3
  obtain ⟨ob0,e,h0,rfl⟩:=hl i o h1
  rcases hFn p u h3 with h|⟨h,_⟩
  ·exact ok.dF i ob0 x p u h0 h2 h
  ·intro e2
   exact e (ok.dj i ob0 k _ x h0 hk h2 (by rw [← e2];exact h))
theorem Tr.freeze (k:Nat) {T n:Nat} {rows:List (List AV)} (hk:look k σ.M=some (.row T n rows)):Tr C σ (σ.freeze k n rows) :=
 Tr.freezeG k hk fun G w F' h hle hF=>by
  have:=RowIs.fix (F':=F') id h.2.2 hF fun i r j av u ψ _ _ _ x=>RP.mono hle x
  simpa using this
theorem Tr.freezeW (k d:Nat) {T n:Nat} {rows rows':List (List AV)} (hk:look k σ.M=some (.rwn T n rows)) (hs:(rows.all fun r=>r.all (AV.shal d))=true) (hr:(rows.map fun r=>r.map (AV.fz d))=rows'):Tr C σ (σ.freeze k n rows') :=
 Tr.freezeG k hk fun G w F' h hle hF=>by
  rw [← hr]
  refine RowIs.fix (AV.fz d) h.2.2 hF fun i r j av u ψ hr hav hψ x=>?_
  exact OW.fix hle d x (fun p hp=>hF p (hψ _ hp)) (List.all_eq_true.1 (List.all_eq_true.1 hs r (List.mem_of_getElem? hr)) av (List.mem_of_getElem? hav))
end
end
section
def pS(s c f:Int):List UInt8:=if s=1 then frS c f else if s=2 then itS c f else if s=3 then spS c f else geS c f
def pOk(s c f:Int):Bool:=if s=1 then frOk c f else if s=2 then itOk c f else if s=3 then spOk c f else geOk c f
end
section
def rR(s n:Int):List UInt8:=if n=1∧s≠3 then [46]else if n=2∧s=1 then [58]else if n=3∧s=1 then [39]else []
def rG(s n:Int):List UInt8 :=
 if s=1∧1≤n∧n≤4 then cut [44,94,35,40] (n-1) n else if s=2∧n=1 then [116] else if(s=2∨s=4)∧n=3 then [35] else []
def rH(s n L:Int):List UInt8:=if s=1 then 95::dig2 n.toNat else if(s=2∨s=4)∧n=L then [42]else []
def pH(s n L:Int):List UInt8:=if n=0 then []else rH s n L
def okR(s n:Int):Bool:=n == 0|| !(rR s n).isEmpty
def okG(s n:Int):Bool:=n == 0|| !(rG s n).isEmpty
def okH(s n L:Int):Bool:=n == 0|| !(rH s n L).isEmpty
def cellS(s c f r g h L:Int):List UInt8:=pS s c f++rR s r++rG s g++pH s h L
def cellOk(s c f r g h L:Int):Bool:=pOk s c f && okR s r && okG s g && okH s h L
theorem rR_len(s n:Int):(rR s n).length≤1:=by
 unfold rR;split
 ·decide
 ·split
  ·decide
  ·split<;>decide
theorem rG_len(s n:Int):(rG s n).length≤4:=by
 unfold rG;split
 ·exact cut_length _ _ _
 ·split
  ·decide
  ·split<;>decide
theorem dig2_len(n:Nat):(dig2 n).length≤2:=by unfold dig2;split<;>simp
theorem rH_len(s n L:Int):(rH s n L).length≤3:=by
 unfold rH;split
 ·have:=dig2_len n.toNat;simp;omega
 ·split<;>decide
theorem pH_len(s n L:Int):(pH s n L).length≤3:=by
 unfold pH;split
 ·decide
 ·exact rH_len s n L
theorem symLenAll:((List.range' 1 4).all fun s=>(List.range' 1 14).all fun c=>(List.range 19).all fun f=>decide ((pS (s:Nat) (c:Nat) (f:Nat)).length≤4∧(rS (s:Nat) (c:Nat) (f:Nat)).length≤4))=true:=by
 decide +kernel
theorem pS_len (s c f:Int)(hs:1≤s∧s≤4)(hc:1≤c∧c≤14)(hf:0≤f∧f≤18):(pS s c f).length≤4∧(rS s c f).length≤4:=by
 obtain⟨s,rfl⟩:=Int.eq_ofNat_of_zero_le (show 0≤s by omega)
 obtain⟨c,rfl⟩:=Int.eq_ofNat_of_zero_le (show 0≤c by omega)
 obtain⟨f,rfl⟩:=Int.eq_ofNat_of_zero_le hf.1
 have h:=symLenAll
 rw [List.all_eq_true]at h
 have h1:=h s (List.mem_range'_1.2 zqo)
 rw [List.all_eq_true]at h1
 have h2:=h1 c (List.mem_range'_1.2 zqo)
 rw [List.all_eq_true]at h2
 exact of_decide_eq_true (h2 f (List.mem_range.2 zqo))
end
section
def sgOk (v:Int)(d t:Bool):Bool:=(v == 0 && !d && !t)|| (decide (1≤v) && decide (v≤7) && !(d && t))
def tkV(v:Int)(d t:Bool):Int :=
 if v<1∨7<v∨(d && t)=true then 0 else if d then 384/2 ^ (v-1).toNat/2*3 else if t then 384/2 ^ (v-1).toNat/3*2 else 384/2 ^ (v-1).toNat
theorem tkAll:((List.range' 1 7).all fun v=>[(false,false),(true,false),(false,true)].all fun p=>decide (0<tkV (v:Nat) p.1 p.2))=true:=by decide +kernel
theorem tkV_pos (v:Int) (d t:Bool) (hv:1≤v∧v≤7) (h:(d && t)=false):0<tkV v d t:=by
 obtain ⟨v,rfl⟩:=Int.eq_ofNat_of_zero_le (show 0≤v by omega)
 have h1:=tkAll
 rw [List.all_eq_true]at h1
 have h2:=h1 v (List.mem_range'_1.2 zqo)
 rw [List.all_eq_true]at h2
 cases d<;>cases t
 ·exact of_decide_eq_true (h2 (false,false) (by simp))
 ·exact of_decide_eq_true (h2 (false,true) (by simp))
 ·exact of_decide_eq_true (h2 (true,false) (by simp))
 ·cases h
end
section
open Go.RowKit
theorem insE_len {cs:List (Int×Int×Bool)} {st:List Int} (h:insE cs st=0):1≤cs.length∧cs.length≤14∧st.length≤18∧stepsBad 0 st=false∧crsE st cs=0:=by
 unfold insE at h
 by_cases h1:14<cs.length∨18<st.length
 ·rw [if_pos h1]at h;cases h
 ·rw [if_neg h1]at h
  by_cases h2:cs.length=0
  ·rw [if_pos h2]at h;cases h
  ·rw [if_neg h2]at h
   by_cases h3:stepsBad 0 st=true
   ·rw [if_pos h3]at h;cases h
   ·rw [if_neg h3]at h
    exact⟨by omega,by omega,by omega,by simpa using h3,h⟩
end
section
open Go.RowKit
def fretsOf (cs:List (Int×Int×Bool)) (c:Int):Int:=(cs.getD (c.toNat-1) (0,0,false)).2.1
def stopE(p:Pce)(i:Int)(s:Stp)(last:Int):Int :=
 if s.1<1∨(p.cs.length:Int)<s.1 then 12
 else if s.2.1<0∨fretsOf p.cs s.1<s.2.1 then 13
 else if s.1≤last then 22
 else if(s.2.2.1<0∨3<s.2.2.1)∨(s.2.2.2.1<0∨4<s.2.2.2.1)then 23
 else if(s.2.2.2.2<0∨(longestN p.evs i s.1:Int)<s.2.2.2.2)∨(0<s.2.2.2.2∧s.2.1=0)then 24
 else 0
def stopsE(p:Pce)(i:Int):Int→List Stp→Int
 | _,[]=>0
 | last,s::r=>if stopE p i s last≠0 then stopE p i s last else stopsE p i s.1 r
def evE(p:Pce)(i:Int)(e:Ev):Int :=
 if sgOk e.val e.dot e.three=false∨(i=0∧e.val=0)then 20
 else if e.tie=true∧(0<e.stops.length∨i=0)then 21
 else stopsE p i 0 e.stops
def evsE (p:Pce):Nat→List Ev→Int
 | _,[]=>0
 | i,e::r=>if evE p i e≠0 then evE p i e else evsE p (i+1) r
def pceE(p:Pce):Int:=if insE p.cs p.st≠0 then insE p.cs p.st else if 400<p.evs.length then 2 else evsE p 0 p.evs
theorem stopsE_at {p:Pce} {i last:Int} {l:List Stp} {k:Nat} (h:k<l.length):stopsE p i last (l.drop k)=if stopE p i l[k] last≠0 then stopE p i l[k] last else stopsE p i l[k].1 (l.drop (k+1)):=by
 rw [List.drop_eq_getElem_cons h];rfl
theorem evsE_at {p:Pce} {l:List Ev} {k:Nat} (h:k<l.length):evsE p k (l.drop k)=if evE p k l[k]≠0 then evE p k l[k]else evsE p (k+1) (l.drop (k+1)):=by
 rw [List.drop_eq_getElem_cons h];rfl
section
variable {p:Pce} {i last:Int} {s:Stp}
theorem stopE_crs(h:s.1<1∨(p.cs.length:Int)<s.1):stopE p i s last=12:=if_pos h
theorem stopE_fret(h:¬ (s.1<1∨(p.cs.length:Int)<s.1))(h1:s.2.1<0∨fretsOf p.cs s.1<s.2.1):stopE p i s last=13:=by unfold stopE;rw [if_neg h,if_pos h1]
theorem stopE_order(h:¬ (s.1<1∨(p.cs.length:Int)<s.1))(h1:¬ (s.2.1<0∨fretsOf p.cs s.1<s.2.1))(h2:s.1≤last):stopE p i s last=22:=by unfold stopE;rw [if_neg h,if_neg h1,if_pos h2]
theorem stopE_mark(h:¬ (s.1<1∨(p.cs.length:Int)<s.1))(h1:¬ (s.2.1<0∨fretsOf p.cs s.1<s.2.1))(h2:¬ s.1≤last)(h3:(s.2.2.1<0∨3<s.2.2.1)∨(s.2.2.2.1<0∨4<s.2.2.2.1)):stopE p i s last=23:=by unfold stopE;rw [if_neg h,if_neg h1,if_neg h2,if_pos h3]
theorem stopE_hold(h:¬ (s.1<1∨(p.cs.length:Int)<s.1))(h1:¬ (s.2.1<0∨fretsOf p.cs s.1<s.2.1))(h2:¬ s.1≤last)(h3:¬ ((s.2.2.1<0∨3<s.2.2.1)∨(s.2.2.2.1<0∨4<s.2.2.2.1)))
  (h4:(s.2.2.2.2<0∨(longestN p.evs i s.1:Int)<s.2.2.2.2)∨(0<s.2.2.2.2∧s.2.1=0)):stopE p i s last=24:=by unfold stopE;rw [if_neg h,if_neg h1,if_neg h2,if_neg h3,if_pos h4]
theorem stopE_ok(h:¬ (s.1<1∨(p.cs.length:Int)<s.1))(h1:¬ (s.2.1<0∨fretsOf p.cs s.1<s.2.1))(h2:¬ s.1≤last)(h3:¬ ((s.2.2.1<0∨3<s.2.2.1)∨(s.2.2.2.1<0∨4<s.2.2.2.1)))
  (h4:¬ ((s.2.2.2.2<0∨(longestN p.evs i s.1:Int)<s.2.2.2.2)∨(0<s.2.2.2.2∧s.2.1=0))):stopE p i s last=0:=by unfold stopE;rw [if_neg h,if_neg h1,if_neg h2,if_neg h3,if_neg h4]
end
theorem fretsOf_at {cs:List (Int×Int×Bool)} {q:Nat} (h:q<cs.length):fretsOf cs ((q:Int)+1)=cs[q].2.1:=by
 unfold fretsOf
 have:((q:Int)+1).toNat-1=q:=by omega
 rw [this,List.getD_eq_getElem?_getD,List.getElem?_eq_getElem h];rfl
end
section
open Go.RowKit
def Calm(W w:World):Prop:=Below W.heap.size W w
theorem wp_region_calm {P:Program} {id:Nat} {Q:Exit→Act→World→Prop} {a:Act} {w:World} {l:List Oper} (W:World) (hm:P.follows .mixedOrders=true) (hB:Region.lexB .any l.toArray=true) (hW:Below W.heap.size W w)
  (h:wpQuiet P l.toArray (Calm W) (fun a'=>∀ w',Calm W w'→Q .normal a' w') l a):(Code.region id l.toArray true).wp P Q a w :=
 wp_region_quiet (C:=Calm W) hm hB (show Below W.heap.size W _ from ⟨hW.os,hW.tape,hW.output,hW.size,hW.block⟩) (by simpa using h)
theorem calm_val {P:Program} {W:World} {o:Oper} {a:Act} {K:Act→Prop} {v:Value} (h:∀ w',Calm W w'→(execOp a.eval o).run P w'=.ok (.value v) w')(hk:K (a.put o.dst v)):o.quiet P a (Calm W) K:=by
 refine⟨v,fun w' hw'=>?_,hk⟩
 unfold Oper.quietAt
 rw [h w' hw']
 exact⟨rfl,rfl⟩
theorem calm_enter {P:Program} {W:World} {o:Oper} {a:Act} {K:Act→Prop} {v:Value} {f:FuncId} {args:Array Value} (h:∀ w',Calm W w'→(execOp a.eval o).run P w'=.ok (.enter f args) w')(hc:∀ w',Calm W w'→Calls P f args w' (Ret v w'))(hk:K (a.put o.dst v)) :
  o.quiet P a (Calm W) K:=by
 refine⟨v,fun w' hw'=>?_,hk⟩
 unfold Oper.quietAt
 rw [h w' hw']
 exact⟨rfl,(hc w' hw').mono fun e w''⟨he,hb⟩=>⟨he,show Below W.heap.size W w'' from Below.trans hw' (hb.mono (Below.size hw'))⟩⟩
theorem calm_cell {W w':World} (h:Calm W w'):(∀ b o,b<W.heap.size→w'.cell? ⟨b,o,none⟩=W.cell? ⟨b,o,none⟩)∧(∀ p:Addr,p.block<W.heap.size→w'.cell? p=W.cell? p) :=
 ⟨fun b o h'=>Below.cell (p:=⟨b,o,none⟩) h h',fun p h'=>Below.cell (p:=p) h h'⟩
end
section
open Go.RowKit
attribute [local go_sem]mk_bs bs_size bs_toList bs_append bs_extract
attribute [local simp]run_cut run_cut_to run_cut_from run_add_bs
theorem of_bad (n:Int)(w:World)(h:n<1∨4<n):Calls Tryz.prog 92 #[.int .u8 n] w fun e w'=>e=.returned (.tuple #[.nilIface,.bool false])∧w=w':=by
 have h1:(n == 1)=false:=by simp;omega
 have h2:(n == 2)=false:=by simp;omega
 have h3:(n == 3)=false:=by simp;omega
 have h4:(n == 4)=false:=by simp;omega
 go_enter Tryz.func92,Tryz.ntmps92
 go_wp2
 go_ret2
 exact⟨rfl,rfl⟩
theorem psym_1 (c f:Int)(w:World)(hc:1≤c∧c≤14)(hf:0≤f∧f≤18) :
  Calls Tryz.prog 188 #[.agg #[],.agg #[.int .i64 c,.int .i64 f]] w (Ret (.tuple #[.string (bs (pS 1 c f)),.bool (pOk 1 c f)]) w):=fr_symbol c f w hc hf
theorem psym_2 (c f:Int)(w:World)(hc:1≤c∧c≤14)(hf:0≤f∧f≤18) :
  Calls Tryz.prog 225 #[.agg #[],.agg #[.int .i64 c,.int .i64 f]] w (Ret (.tuple #[.string (bs (pS 2 c f)),.bool (pOk 2 c f)]) w):=it_symbol c f w hc hf
theorem psym_3 (c f:Int)(w:World)(hc:1≤c∧c≤14)(hf:0≤f∧f≤18) :
  Calls Tryz.prog 233 #[.agg #[],.agg #[.int .i64 c,.int .i64 f]] w (Ret (.tuple #[.string (bs (pS 3 c f)),.bool (pOk 3 c f)]) w):=sp_symbol c f w hf
theorem psym_4 (c f:Int)(w:World)(hc:1≤c∧c≤14)(hf:0≤f∧f≤18) :
  Calls Tryz.prog 240 #[.agg #[],.agg #[.int .i64 c,.int .i64 f]] w (Ret (.tuple #[.string (bs (pS 4 c f)),.bool (pOk 4 c f)]) w):=ge_symbol c f w hc hf
end
end Go.Proofs.YtaeelcfjkhfpkaaGreat
