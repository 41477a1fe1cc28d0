/- A walk that knows values as trees: calls; what is kept, what is forgotten. -/
import Derived.Test.YtaeelcfjkhfpkaaGreatE5Nq
set_option linter.unusedVariables false
set_option linter.unusedSimpArgs false
namespace Go.Proofs.YtaeelcfjkhfpkaaGreat
section
open Go.RowKit
def putL {α:Type}:Nat→List α→List α→List α
 | 0,[],cs=>cs
 | 0,x::l,_::cs=>x::putL 0 l cs
 | j+1,l,c::cs=>c::putL j l cs
 | _,_,[]=>[]
theorem putL_eq {α:Type}:∀ (j:Nat)(l cs:List α),j+l.length≤cs.length→putL j l cs=cs.take j++l++cs.drop (j+l.length)
 | 0,[],cs,_=>by simp [putL]
 | 0,x::l,[],h=>by simp at h
 | 0,x::l,c::cs,h=>by
  have:=putL_eq 0 l cs (by simp at h ⊢;omega)
  simp [putL,this]
 | j+1,l,[],h=>by simp at h
 | j+1,l,c::cs,h=>by
  have:=putL_eq j l cs (by simp at h;omega)
  simp [putL,this,Nat.add_right_comm]
theorem putL_len {α:Type} {j:Nat} {l cs:List α} (h:j+l.length≤cs.length):(putL j l cs).length=cs.length:=by
 rw [putL_eq j l cs h];simp;omega
theorem putL_at {α:Type} {j:Nat} {l cs:List α} (h:j+l.length≤cs.length)(i:Nat):(putL j l cs)[i]?=if j≤i∧i<j+l.length then l[i-j]? else cs[i]?:=by
 rw [putL_eq j l cs h]
 by_cases h1:i<j
 ·rw [if_neg (by omega),List.append_assoc,List.getElem?_append_left (by simp;omega),List.getElem?_take_of_lt h1]
 ·by_cases h2:i<j+l.length
  ·rw [if_pos (by omega),List.getElem?_append_left (by simp;omega),List.getElem?_append_right (by simp;omega)]
   simp [Nat.min_eq_left (show j≤cs.length by omega)]
  ·rw [if_neg (by omega),List.getElem?_append_right (by simp;omega),List.getElem?_drop]
   congr 1;simp;omega
theorem putL_rel {α β:Type} (Q:α→β→Prop) {j:Nat} {l cs:List α} {m ds:List β} (h:j+l.length≤cs.length)(hm:m.length=l.length)(hd:ds.length=cs.length)
  (h1:∀ (i:Nat)x y,l[i]?=some x→m[i]?=some y→Q x y)(h2:∀ (i:Nat)x y,cs[i]?=some x→ds[i]?=some y→Q x y):∀ (i:Nat)x y,(putL j l cs)[i]?=some x→(putL j m ds)[i]?=some y→Q x y:=by
 intro i x y hx hy
 rw [putL_at h]at hx
 rw [putL_at (by omega)]at hy
 rw [hm]at hy
 by_cases e:j≤i∧i<j+l.length
 ·rw [if_pos e]at hx hy;exact h1 _ _ _ hx hy
 ·rw [if_neg e]at hx hy;exact h2 _ _ _ hx hy
theorem flat_put {n:Nat}:∀ (vs:List (List Value)),(∀ r∈vs,r.length=n)→∀ (i j:Nat) (r l:List Value),vs[i]?=some r→j+l.length≤n→(vs.set i (putL j l r)).flatten=putL (i*n+j) l vs.flatten:=by
 intro vs
 induction vs with
 | nil=>intro _ i j r l h;simp at h
 | cons v t ih =>
  intro hn i j r l h hj
  have hv:v.length=n:=hn v (by simp)
  cases i with
  | zero =>
   obtain rfl:v=r:=by simpa using h
   have hf:j+l.length≤(v++t.flatten).length:=by simp;omega
   rw [List.set_cons_zero,List.flatten_cons,List.flatten_cons,Nat.zero_mul,Nat.zero_add,putL_eq j l v (by omega),putL_eq j l _ hf]
   simp only [List.append_assoc]
   rw [List.take_append_of_le_length (by omega),List.drop_append_of_le_length (by omega)]
  | succ i =>
   have ht:∀ r∈t,r.length=n:=fun r hr=>hn r (by simp [hr])
   have h':t[i]?=some r:=by simpa using h
   have hi:i<t.length:=(List.getElem?_eq_some_iff.1 h').1
   have hfl:t.flatten.length=t.length*n:=flatten_len ht
   have hle:i*n+n≤t.length*n:=by
    have:(i+1)*n≤t.length*n:=Nat.mul_le_mul_right n hi
    rw [Nat.succ_mul] at this;exact this
   rw [List.set_cons_succ,List.flatten_cons,List.flatten_cons,ih ht i j r l h' hj,Nat.succ_mul,
    putL_eq _ l t.flatten (by rw [hfl];omega),putL_eq _ l (v++t.flatten) (by simp only [List.length_append];rw [hfl];omega)]
   have e1:List.take (i*n+n+j) v=v:=List.take_of_length_le zqo
   have e2:List.drop (i*n+n+j+l.length) v=[]:=List.drop_eq_nil_of_le zqo
   rw [List.take_append,List.drop_append,e1,e2]
   rw [show i*n+n+j-v.length=i*n+j by omega,show i*n+n+j+l.length-v.length=i*n+j+l.length by omega]
   simp
def AV.pu00:AV→Bool
 | .sc _=>true
 | .ls _ _=>true
 | .pr _=>true
 | _=>false
def AV.pu0:AV→Bool
 | .fn _ l=>l.all AV.pu00
 | av=>av.pu00
theorem pu00_bd {av:AV} (h:av.pu00=true)(nk:Nat):Bd nk av:=by
 cases av<;>first|exact .sc _|exact .ls _ _|exact .pr _|cases h
theorem pu0_own {av:AV} (h:av.pu0=true):av.own=false:=by cases av<;>first|rfl|cases h
theorem pu0_bd {av:AV} (h:av.pu0=true)(nk:Nat):Bd nk av:=by
 cases av with
 | fn f l=>exact .fn f l fun i x hx=>pu00_bd (List.all_eq_true.1 h x (List.mem_of_getElem? hx)) nk
 | sc v=>exact .sc v
 | ls n rows=>exact .ls n rows
 | pr cells=>exact .pr cells
 | _=>cases h
def AO.put:AO→Nat→Nat→List AV→Option AO
 | .box T cells,0,j,l=>bif Nat.ble (j+l.length) cells.length then some (.box T (putL j l cells)) else none
 | .box _ _,_+1,_,_=>none
 | .row T n rows,i,j,l =>
  match rows[i]? with
  | some r=>if j+l.length≤r.length∧l.all AV.pu0=true then some (.row T n (rows.set i (putL j l r))) else none
  | none=>none
 | .rwn T n rows,i,j,l =>
  match rows[i]? with
  | some r=>if j+l.length≤r.length∧l.all AV.pu0=true then some (.rwn T n (rows.set i (putL j l r))) else none
  | none=>none
 | .rof _ _ _ _ _ _,_,_,_=>none
 | .rwo _ _ _ _ _ _,_,_,_=>none
 | .bld _ _ _,_,_,_=>none
 | .opq _,_,_,_=>none
section
variable {P:Program} {C:Cx} {σ σ':St} {G G':Gh} {a:Act} {w w':World} {o:Oper} {d:Tmp}
theorem kept_setRow (w:World)(g:Nat)(cur:Array Value):Kept (fun x=>x=g) w (w.setRow g cur) :=
 ⟨rfl,rfl,rfl,by simp,fun k _ hk=>setRow_other w g k cur hk⟩
theorem Ok.write (ok:Ok C σ G a w) {k g:Nat} {ob ob':AO} (cur:Array Value) (hk:look k σ.M=some ob) (hg:G.fp k g) (hob:ObAt G (w.setRow g cur) k ob') (hbd:ob'.bd σ.nk) :
  Ok C (σ.upd k ob') G a (w.setRow g cur):=by
 have hl:∀ k' o,look k' (σ.upd k ob').M=some o→(k'=k∧o=ob')∨(k'≠k∧look k' σ.M=some o):=fun k' o hx=>by
  by_cases e:k'=k
  ·subst e
   rw [show look k' (σ.upd k' ob').M=some ob' from look_set_same] at hx
   cases hx
   exact .inl ⟨rfl,rfl⟩
  ·rw [show look k' (σ.upd k ob').M=look k' σ.M from look_set_other e] at hx
   exact .inr ⟨e,hx⟩
 have hne:∀ k' o x,k'≠k→look k' σ.M=some o→G.fp k' x→x≠g:=fun k' o x e h1 h2 h3=>by
  subst h3;exact e (ok.dj k' o k ob x h1 hk h2 hg)
 have hsz:(w.setRow g cur).heap.size=w.heap.size:=by simp
 have some_:∀ k' o,look k' (σ.upd k ob').M=some o→∃ o',look k' σ.M=some o':=fun k' o h=>by
  rcases hl k' o h with⟨rfl,_⟩|⟨_,y⟩
  ·exact ⟨ob,hk⟩
  ·exact ⟨o,y⟩
 refine ⟨ok.sz,ok.df,ok.tm,ok.bel.on (kept_setRow w g cur) (fun x hx=>by subst hx;exact (ok.my k ob x hk hg).1),fun p u h=>?_,ok.f0,ok.f1,?_,?_,?_,?_⟩
 ·rw [World.cell?_of_block (setRow_other w g p.block cur (ok.dF k ob g p u hk hg h))];exact ok.fw p u h
 ·intro k' o x
  rcases hl k' o x with⟨rfl,rfl⟩|⟨e,y⟩
  ·exact ⟨(ok.ob k' ob hk).1,hbd,hob⟩
  ·exact ⟨(ok.ob k' o y).1,(ok.ob k' o y).2.1,(ok.ob k' o y).2.2.keep (Gh.le.refl _ _) (ok.ob k' o y).1 (ok.ob k' o y).2.1 rfl fun x hx=>setRow_other w g x cur (hne k' o x e y hx)⟩
 ·intro k' o x h1 h2
  obtain ⟨o',y⟩:=some_ k' o h1
  rw [hsz]
  exact ok.my k' o' x y h2
 ·intro k1 o1 k2 o2 x h1 h2 h3 h4
  obtain ⟨o1',y1⟩:=some_ k1 o1 h1
  obtain ⟨o2',y2⟩:=some_ k2 o2 h2
  exact ok.dj k1 o1' k2 o2' x y1 y2 h3 h4
 ·intro k1 o1 x p u h1 h2 h3
  obtain ⟨o1',y1⟩:=some_ k1 o1 h1
  exact ok.dF k1 o1' x p u y1 h2 h3
theorem oneB_of {av:AV} {v:Value} (r:R G av v)(h:av.oneB=true):v.oneCell'=true:=by
 cases av with
 | sc x=>rw [r.sc_eq];exact h
 | ag l=>cases h
 | tu l=>cases h
 | ls n rows=>obtain⟨A,cap,ad,u,rfl,_⟩:=r.pu_of.ls_of;rfl
 | ow T n rows=>cases h
 | pr cells=>obtain⟨p,u,rfl,_⟩:=r.pr_of.pr_of;rfl
 | pt k i j=>obtain⟨p,rfl,_⟩:=r.pt_of;rfl
 | sl k=>exact r.sl_of.2
 | fn f l=>obtain⟨cs,rfl,_⟩:=r.fn_of;rfl
theorem take_put {cur:List Value} {K off:Nat} {l:List Value} (h:off+l.length≤K)(hK:K≤cur.length):(putL off l cur).take K=putL off l (cur.take K):=by
 apply List.ext_getElem?
 intro i
 have hl:off+l.length≤(cur.take K).length:=by simp;omega
 rw [putL_at hl]
 by_cases e:i<K
 ·rw [List.getElem?_take_of_lt e,putL_at (by omega)]
  by_cases e2:off≤i∧i<off+l.length
  ·rw [if_pos e2,if_pos e2]
  ·rw [if_neg e2,if_neg e2,List.getElem?_take_of_lt e]
 ·rw [if_neg (by omega),List.getElem?_eq_none (by simp;omega),List.getElem?_eq_none (by simp;omega)]
theorem RowIs.put {T n:Nat} {rows:List (List AV)} {v:Value} {φ:Nat→Prop} {X X':Nat→Nat→(Nat→Prop)→AV→Value→Prop} (h:RowIs w T n rows v φ X) {i j:Nat} {r l:List AV} {us:List Value} (hr':rows[i]?=some r) (hle:j+l.length≤r.length) (hcl:us.length=l.length)
  (hone:∀ u∈us,u.oneCell'=true) {g:Nat} {cur:Array Value} {t:TypeId} (hh:w.heap[g]?=some (.cells cur t (0,0))) (hvg:v.ownBlock=some g)
  (hnew:∀ (s:Nat) x u ψ,l[s]?=some x→us[s]?=some u→X' i (j+s) ψ x u)
  (hold:∀ (q s:Nat) ψ x u,(∀ z,ψ z→z≠g)→¬ (q=i∧j≤s∧s<j+l.length)→X q s ψ x u→X' q s ψ x u) :
  i*n+j+us.length≤cur.size∧RowIs (w.setRow g (putL (i*n+j) us cur.toList).toArray) T n (rows.set i (putL j l r)) v φ X':=by
 obtain ⟨hrl,vs,Φ,h4,h5,h7,hgf,hΦ,hΦd,h8,h6⟩:=h
 have hi:i<rows.length:=(List.getElem?_eq_some_iff.1 hr').1
 have hv':vs[i]?=some vs[i]:=List.getElem?_eq_getElem (by omega)
 have e1:=h8 i r _ hr' hv'
 have hvl:∀ r∈vs,r.length=n:=by
  intro r' hr'
  obtain ⟨q,hq,rfl⟩:=List.getElem_of_mem hr'
  have:=h8 q rows[q] vs[q] (List.getElem?_eq_getElem (by omega)) (List.getElem?_eq_getElem hq)
  rw [this];exact hrl _ (List.getElem_mem _)
 have hrn:r.length=n:=hrl r (List.mem_of_getElem? hr')
 rcases h4.2 with⟨_,e0⟩|⟨g',cap,cur',e,hbase,hh',hnc,hcm,hcs,ht⟩
 ·omega
 ·obtain rfl:g'=g:=by rw [e] at hvg;exact Option.some.inj hvg
  obtain ⟨rfl,rfl⟩:cur'=cur∧T=t:=by rw [hh] at hh';cases hh';exact ⟨rfl,rfl⟩
  have hin:i*n+n≤vs.length*n:=by
   have:(i+1)*n≤vs.length*n:=Nat.mul_le_mul_right n zqo
   rw [Nat.succ_mul] at this;exact this
  have hcap:vs.length*n≤cap*n:=Nat.mul_le_mul_right n hnc
  have hfp:=flat_put vs hvl i j vs[i] us hv' zqo
  have hvl':∀ r∈vs.set i (putL j us vs[i]),r.length=n:=by
   intro q hq
   rcases List.mem_or_eq_of_mem_set hq with hq|rfl
   ·exact hvl q hq
   ·rw [putL_len (by omega)];omega
  refine ⟨by rw [hcs];omega,?_,vs.set i (putL j us vs[i]),fun q s x=>¬ (q=i∧j≤s∧s<j+l.length)∧Φ q s x,⟨?_,.inr ⟨g',cap,_,?_,hbase,setRow_heap w _ _ _ _ _ hh,?_,hcm,?_,?_⟩⟩,by simp [h5],?_,hgf,fun q s x hx=>hΦ q s x hx.2,fun q s q' s' x h1 h2=>hΦd q s q' s' x h1.2 h2.2,?_,?_⟩
  ·intro q hq
   rcases List.mem_or_eq_of_mem_set hq with hq|rfl
   ·exact hrl q hq
   ·rw [putL_len (by omega)];exact hrn
  ·rw [flatten_len hvl']
  ·rw [e];simp
  ·simpa using hnc
  ·rw [List.size_toArray,putL_len (by rw [hcl];simp [hcs];omega)];simpa using hcs
  ·rw [hfp,List.length_set,take_put (by omega) (by simp [hcs];omega),ht]
  ·intro q hq u hu
   rcases List.mem_or_eq_of_mem_set hq with hq|rfl
   ·exact h7 q hq u hu
   ·obtain ⟨s,hs,rfl⟩:=List.getElem_of_mem hu
    have:=putL_at (j:=j) (l:=us) (cs:=vs[i]) zqo s
    rw [List.getElem?_eq_getElem hs] at this
    split at this
    ·exact hone _ (List.mem_of_getElem? this.symm)
    ·exact h7 _ (List.getElem_mem _) _ (List.mem_of_getElem? this.symm)
  ·intro q r1 r2 hq1 hq2
   by_cases eq:q=i
   ·subst eq
    rw [List.getElem?_set_self (by omega)] at hq1 hq2
    cases hq1;cases hq2
    rw [putL_len (by omega),putL_len hle];exact e1
   ·rw [List.getElem?_set_ne (fun h=>eq h.symm)] at hq1 hq2
    exact h8 q r1 r2 hq1 hq2
  ·intro q r1 r2 s x u hq1 hq2 hs hu
   have hne:∀ z,(¬ (q=i∧j≤s∧s<j+l.length)∧Φ q s z)→z≠g':=fun z hz h=>(hΦ q s z hz.2).2 (by rw [e,h];rfl)
   by_cases eq:q=i
   ·subst eq
    rw [List.getElem?_set_self (by omega)] at hq1 hq2
    cases hq1;cases hq2
    rw [putL_at hle] at hs
    rw [putL_at (by omega),hcl] at hu
    by_cases e3:j≤s∧s<j+l.length
    ·rw [if_pos e3] at hs hu
     have:=hnew (s-j) x u (fun z=>¬ (q=q∧j≤s∧s<j+l.length)∧Φ q s z) hs hu
     rwa [show j+(s-j)=s by omega] at this
    ·rw [if_neg e3] at hs hu
     have h61:=h6 q r _ s x u hr' hv' hs hu
     have:(fun z=>¬ (q=q∧j≤s∧s<j+l.length)∧Φ q s z)=Φ q s:=by
      funext z
      exact propext ⟨fun h=>h.2,fun h=>⟨fun h'=>e3 h'.2,h⟩⟩
     show X' q s (fun z=>¬ (q=q∧j≤s∧s<j+l.length)∧Φ q s z) x u
     rw [this]
     exact hold q s (Φ q s) x u (fun z hz=>hne z ⟨fun h'=>e3 h'.2,hz⟩) (fun h'=>e3 h'.2) h61
   ·rw [List.getElem?_set_ne (fun h=>eq h.symm)] at hq1 hq2
    have h61:=h6 q r1 r2 s x u hq1 hq2 hs hu
    have:(fun z=>¬ (q=i∧j≤s∧s<j+l.length)∧Φ q s z)=Φ q s:=by
     funext z
     exact propext ⟨fun h=>h.2,fun h=>⟨fun h'=>eq h'.1,h⟩⟩
    show X' q s (fun z=>¬ (q=i∧j≤s∧s<j+l.length)∧Φ q s z) x u
    rw [this]
    exact hold q s (Φ q s) x u (fun z hz=>hne z ⟨fun h'=>eq h'.1,hz⟩) (fun h'=>eq h'.1) h61
theorem RowIs.blk {T n:Nat} {rows:List (List AV)} {v:Value} {φ:Nat→Prop} {X:Nat→Nat→(Nat→Prop)→AV→Value→Prop} (h:RowIs w T n rows v φ X)(hp:0<rows.length):∃ g cur,v.ownBlock=some g∧φ g∧w.heap[g]?=some (.cells cur T (0,0)):=by
 obtain⟨hrl,vs,Φ,h4,h5,h7,hgf,_⟩:=h
 rcases h4.2 with⟨_,e0⟩|⟨g,cap,cur,e,_,hh,_⟩
 ·omega
 ·have:v.ownBlock=some g:=by rw [e];rfl
  exact⟨g,cur,this,hgf g this,hh⟩
theorem WO.store {T m:Nat} {x y:Operand} {k i j:Nat} {ob ob':AO} {av:AV} {l:List AV} (ho:o.op=.store T x y) (hds:o.dst=none) (hn:sizeB P T=some m) (hx:σ.ev x=some (.pt k i j)) (hk:look k σ.M=some ob) (hy:σ.ev y=some av)
  (hB:av.cellB=true) (hl:av.cells=l) (hm:l.length=m) (h1:l.all AV.oneB=true) (hp:ob.put i j l=some ob'):WO P C o σ (σ.upd k ob'):=by
 intro G a w ok N Q' hN
 obtain ⟨p,ep,p1,p2,p3⟩:=(ok.evr hx).2.pt_of
 obtain ⟨hb,hr⟩:=ok.evr hy
 obtain ⟨c1,c2⟩:=cells_of hr hB
 have cb:=cells_bd hb
 rw [hl] at c1 c2 cb
 obtain ⟨v,hv⟩:∃ v,a.eval y=v:=⟨_,rfl⟩
 rw [hv] at c1 c2
 have hone:∀ u∈v.cells.toList,u.oneCell'=true:=fun u hu=>by
  obtain ⟨q,hq,rfl⟩:=List.getElem_of_mem hu
  have hq':q<l.length:=by simpa [c1] using hq
  exact oneB_of (c2 q l[q] _ (List.getElem?_eq_getElem hq') (by simp at hq;simp [hq])) (List.all_eq_true.1 h1 _ (List.getElem_mem hq'))
 obtain rfl:=addr_eq p1 p2 p3
 have fin:∀ (g:Nat) (cur:Array Value) (t:TypeId),w.heap[g]?=some (.cells cur t (0,0))→g=G.b k→i*G.n k+j+l.length≤cur.size→G.fp k g→ob'.bd σ.nk →
   (ObAt G (w.setRow g (putL (i*G.n k+j) v.cells.toList cur.toList).toArray) k ob')→o.wp P a w N Q':=fun g cur t hg hgb hle hown hbd hob=>by
  have hst:=run_storeCells_at P g (i*G.n k+j) t v.cells.toList 0 cur w hg (by simp [c1];omega) hone
  rw [Nat.add_zero,← putL_eq _ _ _ (by simp [c1];omega)] at hst
  unfold Oper.wp execOp
  simp only [ho,ep,hv,Instr.storeAt,Instr.sureAddr,storeVar,Sem.run_bind,Sem.run_pure,Result.andThen_ok,run_sizeB hn,← hgb,hst]
  rw [if_neg (by rw [c1,hm];simp)]
  simp only [Sem.run_bind,Sem.run_pure,Result.andThen_ok,hst,Oper.upon]
  rw [hds]
  exact hN G _ _ (ok.write _ hk hown hob hbd)
 have hobk:=ok.ob k ob hk
 cases ob with
 | box T' cells =>
  cases i with
  | succ i=>simp [AO.put] at hp
  | zero =>
   simp only [AO.put] at hp
   cases hle:Nat.ble (j+l.length) cells.length with
   | false=>simp [hle] at hp
   | true =>
    simp [hle] at hp
    subst hp
    have hle:=Nat.le_of_ble_eq_true hle
    obtain ⟨hf,cs,Φ,hbk,hs,hΦ,hΦd,hc⟩:=hobk.2.2
    refine fin (G.b k) cs T' hbk rfl (by rw [hs];simpa using hle) hf (fun q x hx=>?_) ⟨hf,_,fun q x=>¬ (j≤q∧q<j+l.length)∧Φ q x,setRow_heap w _ _ _ _ _ hbk,?_,fun q x hx=>hΦ q x hx.2,fun q q' x h1 h2=>hΦd q q' x h1.2 h2.2,?_⟩
    ·rw [putL_at hle] at hx
     split at hx
     ·exact cb _ x hx
     ·exact hobk.2.1 _ x hx
    ·simp only [Nat.zero_mul,Nat.zero_add,List.size_toArray]
     rw [putL_len (by simp [c1,hs];exact hle),putL_len hle];simpa using hs
    ·intro q x u hx hu
     simp only [Nat.zero_mul,Nat.zero_add,List.getElem?_toArray] at hu
     rw [putL_at hle] at hx
     rw [putL_at (by simp [c1,hs];exact hle)] at hu
     simp only [Array.length_toList,c1] at hu
     by_cases e:j≤q∧q<j+l.length
     ·rw [if_pos e] at hx hu
      exact .inl (c2 _ x u hx (by simpa using hu))
     ·rw [if_neg e] at hx hu
      refine ((hc q x u hx (by simpa using hu)).keep (Gh.le.refl _ σ.nk) (hobk.2.1 q x hx) fun z hz=>setRow_other w _ z _ (hΦ q z hz).2).wide fun z hz=>⟨e,hz⟩
 | row T' n rows =>
  simp only [AO.put] at hp
  cases hr':rows[i]? with
  | none=>simp [hr'] at hp
  | some r =>
   simp only [hr'] at hp
   by_cases hcond:j+l.length≤r.length∧l.all AV.pu0=true
   ·rw [if_pos hcond] at hp
    cases hp
    obtain ⟨hle,hpu⟩:=hcond
    obtain ⟨hn',hg,hR⟩:=hobk.2.2
    obtain ⟨g,cur,hvg,hφg,hh⟩:=hR.blk (by have:=(List.getElem?_eq_some_iff.1 hr').1;omega)
    have hgb:=hg g hvg
    obtain ⟨q1,q2⟩:=hR.put (X':=XP G.F) hr' hle (us:=v.cells.toList) (by simpa using c1) hone hh hvg (fun s x u ψ hs hu=>(pu0_bd (List.all_eq_true.1 hpu x (List.mem_of_getElem? hs)) 0).rp (c2 s x u hs (by simpa using hu))) (fun q s ψ x u _ _ h=>h)
    refine fin g cur T' hh hgb (by rw [hn'];simpa [c1] using q1) hφg trivial ⟨hn',hg,?_⟩
    rw [hn'];exact q2
   ·rw [if_neg hcond] at hp;cases hp
 | rwn T' n rows =>
  simp only [AO.put] at hp
  cases hr':rows[i]? with
  | none=>simp [hr'] at hp
  | some r =>
   simp only [hr'] at hp
   by_cases hcond:j+l.length≤r.length∧l.all AV.pu0=true
   ·rw [if_pos hcond] at hp
    cases hp
    obtain ⟨hle,hpu⟩:=hcond
    obtain ⟨hn',hg,hR⟩:=hobk.2.2
    obtain ⟨g,cur,hvg,hφg,hh⟩:=hR.blk (by have:=(List.getElem?_eq_some_iff.1 hr').1;omega)
    have hgb:=hg g hvg
    obtain ⟨q1,q2⟩:=hR.put (X':=XO G.F (w.setRow g (putL (i*n+j) v.cells.toList cur.toList).toArray)) hr' hle (us:=v.cells.toList) (by simpa using c1) hone hh hvg (fun s x u ψ hs hu=>.pu _ _ _ ((pu0_bd (List.all_eq_true.1 hpu x (List.mem_of_getElem? hs)) 0).rp (c2 s x u hs (by simpa using hu))))
     (fun q s ψ x u hne _ h=>OW.keep (fun _ _ h=>h) h fun z hz=>setRow_other w _ z _ (hne z hz))
    refine fin g cur T' hh hgb (by rw [hn'];simpa [c1] using q1) hφg trivial ⟨hn',hg,?_⟩
    rw [hn'];exact q2
   ·rw [if_neg hcond] at hp;cases hp
 | rof T' n rows hi hj y=>cases hp
 | rwo T' n rows hi hj y=>cases hp
 | bld T' e l'=>cases hp
 | opq q=>cases hp
end
end
section
open Go.RowKit
def AV.pu1:AV→Bool
 | .ag l=>l.all AV.pu0
 | av=>av.pu0
def AV.pu2:AV→Bool
 | .tu l=>l.all AV.pu1
 | av=>av.pu1
theorem pu1_bd {av:AV} (h:av.pu1=true)(nk:Nat):Bd nk av:=by
 cases av with
 | ag l=>exact .ag l fun i x hx=>pu0_bd (List.all_eq_true.1 h x (List.mem_of_getElem? hx)) nk
 | _=>refine pu0_bd ?_ nk;exact h
theorem pu2_bd {av:AV} (h:av.pu2=true)(nk:Nat):Bd nk av:=by
 cases av with
 | tu l=>exact .tu l fun i x hx=>pu1_bd (List.all_eq_true.1 h x (List.mem_of_getElem? hx)) nk
 | _=>refine pu1_bd ?_ nk;exact h
def St.evs (σ:St):List Operand→Option (List AV)
 | []=>some []
 | x::r =>
  match σ.ev x,St.evs σ r with
  | some av,some l=>some (av::l)
  | _,_=>none
section
variable {P:Program} {C:Cx} {σ σ':St} {G G':Gh} {a:Act} {w w':World} {o:Oper} {d:Tmp}
theorem Ok.evl (ok:Ok C σ G a w):∀ {xs:List Operand} {l:List AV},σ.evs xs=some l→(xs.map a.eval).length=l.length∧∀ (i:Nat)av u,l[i]?=some av→(xs.map a.eval)[i]?=some u→R G av u
 | [],l,h=>by cases h;exact ⟨rfl,fun i av u h=>by simp at h⟩
 | x::r,l,h=>by
  unfold St.evs at h
  cases h1:σ.ev x with
  | none=>simp [h1]at h
  | some av =>
   cases h2:σ.evs r with
   | none=>simp [h1,h2]at h
   | some l' =>
    simp [h1,h2]at h
    subst h
    obtain ⟨e1,e2⟩:=ok.evl h2
    refine ⟨by simpa using e1,fun i y u hy hu=>?_⟩
    cases i with
    | zero=>cases hy;cases hu;exact (ok.evr h1).2
    | succ i=>exact e2 i y u (by simpa using hy) (by simpa using hu)
theorem Ok.called (ok:Ok C σ G a w) {F':View} (hb:Below w.heap.size w w') (h1:View.le G.F F') (h2:∀ p u,F' p=some u→w'.cell? p=some u) (h3:∀ p u,F' p=some u→G.F p=some u∨w.heap.size≤p.block) :
  Ok C σ { G with F:=F' } a w' :=
 ok.world (S:=fun _=>False) ⟨h1,fun _ _=>rfl,fun _ _=>rfl,fun _ _=>rfl⟩ (fun _ _=>rfl) (Kept.below hb) (fun _ h=>h.elim) (fun k o x p q=>hb.block x (ok.my k o x p q).2) h2 h3
theorem WV.call {f:FuncId} {xs:Array Operand} {ts:Array TypeId} {args:List AV} {res:AV} (ho:o.op=.call { callee:=.value (.func f),args:=xs,argTypes:=ts }) (hc:∀ vs w,(callFunc f vs).run P w=.ok (.enter f vs) w)
  (hx:σ.evs xs.toList=some args) (hp:args.all AV.pu2=true) (h:Ctr P f args res):WV P C o σ res:=by
 intro G a w ok N Q' hN
 obtain ⟨e1,e2⟩:=ok.evl hx
 have hcalls:=h w G.F (xs.toList.map a.eval) ok.fw ⟨e1,fun i av u p q=>(pu2_bd (List.all_eq_true.1 hp av (List.mem_of_getElem? p)) 0).rp (e2 i av u p q)⟩
 unfold Oper.wp execOp
 have ev:a.eval (.func f)=.func (.func f) #[] #[]:=rfl
 have e3:(#[]++xs.map a.eval++#[]:Array Value)=(xs.toList.map a.eval).toArray:=by apply Array.ext';simp
 simp only [ho,resolve,ev,Deferred.ofValue,invoke,Sem.run_bind,Sem.run_pure,Result.andThen_ok,hc,Oper.upon,e3]
 refine hcalls.mono fun e w1 ⟨v,F',he,hb,h1,h2,h3,h4⟩=>?_
 subst he
 exact hN v _ w1 (fun σ'' a'' ok''=>ok''.called hb h1 h2 h3) (.pu _ _ h4) (h4.bd _)
theorem WV.inv {f:FuncId} {x:Operand} {name:String} {t:TypeId} {rv:Value} {l:List AV} {xs:Array Operand} {ts:Array TypeId} {args:List AV} {res:AV} (ho:o.op=.call { callee:=.invoke x name,args:=xs,argTypes:=ts })
  (hr:σ.ev x=some (.sc (.iface t rv))) (hc:∀ vs w,(callMethod (.iface t rv) name vs).run P w=.ok (.enter f (#[rv]++vs)) w) (hrv:rv=.agg #[])
  (hx:σ.evs xs.toList=some args) (hp:args.all AV.pu2=true) (h:Ctr P f (.ag []::args) res):WV P C o σ res:=by
 intro G a w ok N Q' hN
 obtain ⟨e1,e2⟩:=ok.evl hx
 subst hrv
 have hcalls:=h w G.F (.agg #[]::xs.toList.map a.eval) ok.fw ⟨by simpa using e1,fun i av u p q=>by
  cases i with
  | zero=>cases p;cases q;exact .ag [] #[] rfl fun i av u h=>by simp at h
  | succ i =>
   have p:args[i]?=some av:=by simpa using p
   exact (pu2_bd (List.all_eq_true.1 hp av (List.mem_of_getElem? p)) 0).rp (e2 i av u p (by simpa using q))⟩
 unfold Oper.wp execOp
 have e4:(#[Value.iface t (.agg #[])]++xs.map a.eval:Array Value)[0]?=some (Value.iface t (.agg #[])):=by rw [Array.getElem?_append_left (by simp)];rfl
 have e5:(#[Value.iface t (.agg #[])]++xs.map a.eval:Array Value).extract 1 (#[Value.iface t (.agg #[])]++xs.map a.eval:Array Value).size=xs.map a.eval:=by
  apply Array.ext'
  simp [List.take_of_length_le]
 simp only [ho,resolve,ok.evs hr,invoke,Sem.run_bind,Sem.run_pure,Result.andThen_ok,e4,e5,hc,Oper.upon]
 have e6:(#[Value.agg #[]]++xs.map a.eval:Array Value)=(Value.agg #[]::xs.toList.map a.eval).toArray:=by
  apply Array.ext'
  first|rfl|(simp;done)|(rw [Array.toList_append];simp;done)
 rw [e6]
 refine hcalls.mono fun e w1 ⟨v,F',he,hb,h1,h2,h3,h4⟩=>?_
 subst he
 exact hN v _ w1 (fun σ'' a'' ok''=>ok''.called hb h1 h2 h3) (.pu _ _ h4) (h4.bd _)
end
def AV.ren0 (ρ:Nat→Nat):AV→AV
 | .pt k i j=>.pt (ρ k) i j
 | .sl k=>.sl (ρ k)
 | av=>av
def AV.ren1 (ρ:Nat→Nat):AV→AV
 | .fn f l=>.fn f (l.map (AV.ren0 ρ))
 | av=>av.ren0 ρ
def AV.ren2 (ρ:Nat→Nat):AV→AV
 | .ag l=>.ag (l.map (AV.ren1 ρ))
 | av=>av.ren1 ρ
def AV.ren (ρ:Nat→Nat):AV→AV
 | .tu l=>.tu (l.map (AV.ren2 ρ))
 | av=>av.ren2 ρ
def AV.in0(nk:Nat):AV→Bool
 | .pt k _ _=>Nat.blt k nk
 | .sl k=>Nat.blt k nk
 | .ag _=>false
 | .tu _=>false
 | .fn _ _=>false
 | _=>true
def AV.in1 (nk:Nat):AV→Bool
 | .fn _ l=>l.all (AV.in0 nk)
 | av=>av.in0 nk
def AV.in2 (nk:Nat):AV→Bool
 | .ag l=>l.all (AV.in1 nk)
 | av=>av.in1 nk
def AV.inn (nk:Nat):AV→Bool
 | .tu l=>l.all (AV.in2 nk)
 | av=>av.in2 nk
def AO.ren (ρ:Nat→Nat):AO→AO
 | .box T cells=>.box T (cells.map (AV.ren1 ρ))
 | .rof T n rows hi hj x=>.rof T n rows hi hj (x.ren1 ρ)
 | .rwo T n rows hi hj x=>.rwo T n rows hi hj (x.ren1 ρ)
 | ob=>ob
def AO.inn (nk:Nat):AO→Bool
 | .box _ cells=>cells.all (AV.in1 nk)
 | .row _ _ _=>true
 | .rwn _ _ _=>true
 | .rof _ _ _ _ _ x=>x.in1 nk
 | .rwo _ _ _ _ _ x=>x.in1 nk
 | .bld _ _ _=>true
 | .opq _=>true
def TrT (σ:St)(ρ:Nat→Nat)(nk:Nat):List (Nat×AV)→Prop
 | []=>True
 | x::r=>(look x.1 σ.t=some (x.2.ren ρ)∧x.2.inn nk=true)∧TrT σ ρ nk r
def TrM (σ:St)(ρ:Nat→Nat)(nk:Nat):List (Nat×AO)→Prop
 | []=>True
 | x::r=>(look (ρ x.1) σ.M=some (x.2.ren ρ)∧x.2.inn nk=true∧Nat.blt x.1 nk=true)∧TrM σ ρ nk r
theorem in0_bd {nk:Nat} {av:AV} (h:av.in0 nk=true):Bd nk av:=by
 cases av with
 | sc v=>exact .sc v
 | ls n rows=>exact .ls n rows
 | ow T n rows=>exact .ow T n rows
 | pr cells=>exact .pr cells
 | pt k i j=>exact .pt k i j (of_blt h)
 | sl k=>exact .sl k (of_blt h)
 | _=>cases h
theorem in1_bd {nk:Nat} {av:AV} (h:av.in1 nk=true):Bd nk av:=by
 cases av with
 | fn f l=>exact .fn f l fun i x hx=>in0_bd (List.all_eq_true.1 h x (List.mem_of_getElem? hx))
 | _=>refine in0_bd ?_;exact h
theorem in2_bd {nk:Nat} {av:AV} (h:av.in2 nk=true):Bd nk av:=by
 cases av with
 | ag l=>exact .ag l fun i x hx=>in1_bd (List.all_eq_true.1 h x (List.mem_of_getElem? hx))
 | _=>refine in1_bd ?_;exact h
theorem inn_bd {nk:Nat} {av:AV} (h:av.inn nk=true):Bd nk av:=by
 cases av with
 | tu l=>exact .tu l fun i x hx=>in2_bd (List.all_eq_true.1 h x (List.mem_of_getElem? hx))
 | _=>refine in2_bd ?_;exact h
def Gh.ren (G:Gh)(ρ:Nat→Nat):Gh:=⟨G.F,fun k=>G.b (ρ k),fun k=>G.n (ρ k),fun k=>G.h (ρ k),fun k=>G.fp (ρ k)⟩
theorem R.ren0 {G:Gh} {ρ:Nat→Nat} {nk:Nat} {av:AV} {v:Value} (h:av.in0 nk=true)(r:R G (av.ren0 ρ) v):R (G.ren ρ) av v:=by
 cases av with
 | pt k i j=>obtain⟨p,rfl,a,b,c⟩:=r.pt_of;exact .pt k i j p a b c
 | sl k=>obtain⟨rfl,b⟩:=r.sl_of;exact R.sl (G:=G.ren ρ) k b
 | sc x=>rw [r.sc_eq];exact .pu _ _ (.sc x)
 | ls n rows=>exact .pu _ _ r.pu_of
 | pr cells=>exact .pu _ _ r.pr_of
 | ow T n rows=>exact r.no_ow.elim
 | _=>cases h
theorem R.ren1 {G:Gh} {ρ:Nat→Nat} {nk:Nat} {av:AV} {v:Value} (h:av.in1 nk=true) (r:R G (av.ren1 ρ) v):R (G.ren ρ) av v:=by
 cases av with
 | fn f l =>
  obtain ⟨cs,rfl,h1,h2⟩:=R.fn_of (l:=l.map (AV.ren0 ρ)) r
  exact .fn f l cs (by simpa using h1) fun i av u x y=>R.ren0 (List.all_eq_true.1 h av (List.mem_of_getElem? x)) (h2 i _ u (by rw [List.getElem?_map,x];rfl) y)
 | ag l=>cases h
 | tu l=>cases h
 | pt k i j=>exact R.ren0 (nk:=nk) h r
 | sl k=>exact R.ren0 (nk:=nk) h r
 | sc x=>exact R.ren0 (nk:=nk) h r
 | ls n rows=>exact R.ren0 (nk:=nk) h r
 | ow T n rows=>exact R.ren0 (nk:=nk) h r
 | pr cells=>exact R.ren0 (nk:=nk) h r
theorem R.ren2 {G:Gh} {ρ:Nat→Nat} {nk:Nat} {av:AV} {v:Value} (h:av.in2 nk=true) (r:R G (av.ren2 ρ) v):R (G.ren ρ) av v:=by
 cases av with
 | ag l =>
  obtain ⟨cs,rfl,h1,h2⟩:=R.ag_of (l:=l.map (AV.ren1 ρ)) r
  exact .ag l cs (by simpa using h1) fun i av u x y=>R.ren1 (List.all_eq_true.1 h av (List.mem_of_getElem? x)) (h2 i _ u (by rw [List.getElem?_map,x];rfl) y)
 | tu l=>cases h
 | fn f l=>exact R.ren1 (nk:=nk) h r
 | pt k i j=>exact R.ren1 (nk:=nk) h r
 | sl k=>exact R.ren1 (nk:=nk) h r
 | sc x=>exact R.ren1 (nk:=nk) h r
 | ls n rows=>exact R.ren1 (nk:=nk) h r
 | ow T n rows=>exact R.ren1 (nk:=nk) h r
 | pr cells=>exact R.ren1 (nk:=nk) h r
theorem R.ren_ {G:Gh} {ρ:Nat→Nat} {nk:Nat} {av:AV} {v:Value} (h:av.inn nk=true) (r:R G (av.ren ρ) v):R (G.ren ρ) av v:=by
 cases av with
 | tu l =>
  obtain ⟨cs,rfl,h1,h2⟩:=R.tu_of (l:=l.map (AV.ren2 ρ)) r
  exact .tu l cs (by simpa using h1) fun i av u x y=>R.ren2 (List.all_eq_true.1 h av (List.mem_of_getElem? x)) (h2 i _ u (by rw [List.getElem?_map,x];rfl) y)
 | ag l=>exact R.ren2 (nk:=nk) h r
 | fn f l=>exact R.ren2 (nk:=nk) h r
 | pt k i j=>exact R.ren2 (nk:=nk) h r
 | sl k=>exact R.ren2 (nk:=nk) h r
 | sc x=>exact R.ren2 (nk:=nk) h r
 | ls n rows=>exact R.ren2 (nk:=nk) h r
 | ow T n rows=>exact R.ren2 (nk:=nk) h r
 | pr cells=>exact R.ren2 (nk:=nk) h r
theorem CR.ren {G:Gh} {w:World} {ρ:Nat→Nat} {nk:Nat} {φ:Nat→Prop} {av:AV} {v:Value} (h:av.in1 nk=true)(r:CR G w φ (av.ren1 ρ) v):CR (G.ren ρ) w φ av v:=by
 rcases r with r|o
 ·exact .inl (R.ren1 h r)
 ·by_cases ho:av.own=true
  ·cases av with
   | ow T n rows=>exact .inr o
   | _=>cases ho
  ·have ho2:(av.ren1 ρ).own=false:=by cases av<;>first|rfl|exact absurd rfl ho
   exact .inl (R.ren1 h (.pu _ _ (OW.p o ho2)))
theorem ObAt.ren {G:Gh} {w:World} {ρ:Nat→Nat} {nk k:Nat} {ob:AO} (h:ob.inn nk=true) (g:ObAt G w (ρ k) (ob.ren ρ)):ob.bd nk∧ObAt (G.ren ρ) w k ob:=by
 cases ob with
 | box T cells =>
  obtain ⟨b1,cs,Φ,b2,b3,b4,b5,b6⟩:=g
  exact ⟨fun i av x=>in1_bd (List.all_eq_true.1 h av (List.mem_of_getElem? x)),b1,cs,Φ,b2,by simpa using b3,b4,b5,fun i av u x y=>CR.ren (List.all_eq_true.1 h av (List.mem_of_getElem? x)) (b6 i _ u (by rw [List.getElem?_map,x];rfl) y)⟩
 | row T n rows=>exact ⟨trivial,g⟩
 | rwn T n rows=>exact ⟨trivial,g⟩
 | rof T n rows hi hj y =>
  obtain ⟨g1,g2,g3⟩:=g
  refine ⟨in1_bd h,g1,g2,g3.keep (fun _ _=>rfl) fun i r j av ψ u _ _ _ x=>?_⟩
  unfold XH at x ⊢
  by_cases e:i=hi∧j=hj
  ·rw [if_pos e] at x ⊢
   exact R.ren1 h x
  ·rw [if_neg e] at x ⊢
   exact x
 | rwo T n rows hi hj y =>
  obtain ⟨g1,g2,g3⟩:=g
  refine ⟨in1_bd h,g1,g2,g3.keep (fun _ _=>rfl) fun i r j av ψ u _ _ _ x=>?_⟩
  unfold XQ at x ⊢
  by_cases e:i=hi∧j=hj
  ·rw [if_pos e] at x ⊢
   exact R.ren1 h x
  ·rw [if_neg e] at x ⊢
   exact x
 | bld T e l=>exact ⟨trivial,g⟩
 | opq q=>exact ⟨trivial,g⟩
theorem TrT.at_ {σ:St} {ρ:Nat→Nat} {nk:Nat}:∀ {t:List (Nat×AV)},TrT σ ρ nk t→∀ i av,look i t=some av→look i σ.t=some (av.ren ρ)∧av.inn nk=true
 | [],_,i,av,h=>by cases h
 | x::r,ht,i,av,h=>by
  by_cases e:i=x.1
  ·subst e
   rw [show look x.1 (x::r)=some x.2 from look_set_same]at h
   cases h
   exact ht.1
  ·rw [show look i (x::r)=look i r from look_set_other e]at h
   exact TrT.at_ ht.2 i av h
theorem TrM.at_ {σ:St} {ρ:Nat→Nat} {nk:Nat}:∀ {t:List (Nat×AO)},TrM σ ρ nk t→∀ i ob,look i t=some ob→look (ρ i) σ.M=some (ob.ren ρ)∧ob.inn nk=true∧i<nk
 | [],_,i,av,h=>by cases h
 | x::r,ht,i,av,h=>by
  by_cases e:i=x.1
  ·subst e
   rw [show look x.1 (x::r)=some x.2 from look_set_same] at h
   cases h
   exact⟨ht.1.1,ht.1.2.1,of_blt ht.1.2.2⟩
  ·rw [show look i (x::r)=look i r from look_set_other e] at h
   exact TrM.at_ ht.2 i av h
def injB (ρ:Nat→Nat):List Nat→Bool
 | []=>true
 | k::r=>r.all (fun q=>Nat.beq k q|| !Nat.beq (ρ k) (ρ q)) && injB ρ r
theorem injB_spec {ρ:Nat→Nat}:∀ {l:List Nat},injB ρ l=true→∀ k q,k∈l→q∈l→ρ k=ρ q→k=q
 | [],_,k,q,h,_=>by cases h
 | x::r,h,k,q,hk,hq=>fun e=>by
  simp only [injB,Bool.and_eq_true,List.all_eq_true,Bool.or_eq_true,Bool.not_eq_true']at h
  rcases List.mem_cons.1 hk with hk1|hk1
  ·rcases List.mem_cons.1 hq with hq1|hq1
   ·rw [hk1,hq1]
   ·rcases h.1 q hq1 with y|y
    ·rw [hk1];exact Nat.eq_of_beq_eq_true y
    ·rw [← hk1,e]at y;simp at y
  ·rcases List.mem_cons.1 hq with hq1|hq1
   ·rcases h.1 k hk1 with y|y
    ·rw [hq1];exact(Nat.eq_of_beq_eq_true y).symm
    ·rw [← hq1,e]at y;simp at y
   ·exact injB_spec h.2 k q hk1 hq1 e
theorem look_mem {α:Type}:∀ {l:List (Nat×α)} {i:Nat} {x:α},look i l=some x→i∈l.map (·.1)
 | [],i,x,h=>by cases h
 | y::r,i,x,h=>by
  by_cases e:i=y.1
  ·subst e;simp
  ·rw [show look i (y::r)=look i r from look_set_other e]at h
   have:=look_mem h
   simp only [List.map_cons,List.mem_cons];exact .inr this
def pinB (ρ:Nat→Nat)(nk:Nat):Nat→Bool
 | 0=>true
 | n+1=>Nat.beq (ρ n) n && Nat.blt n nk && pinB ρ nk n
theorem pinB_of {ρ:Nat→Nat} {nk:Nat}:∀ {n:Nat},pinB ρ nk n=true→n≤nk∧∀ k,k<n→ρ k=k
 | 0,_=>⟨Nat.zero_le _,fun k hk=>absurd hk (Nat.not_lt_zero k)⟩
 | n+1,h=>by
  simp only [pinB,Bool.and_eq_true]at h
  obtain⟨h1,h2⟩:=pinB_of h.2
  refine⟨of_blt h.1.2,fun k hk=>?_⟩
  by_cases e:k=n
  ·rw [e];exact Nat.eq_of_beq_eq_true h.1.1
  ·exact h2 k zqo
theorem Tr.ren {C:Cx} {σ σ':St} (ρ:Nat→Nat) (ht:TrT σ ρ σ'.nk σ'.t) (hm:TrM σ ρ σ'.nk σ'.M) (hi:(injB ρ (σ'.M.map (·.1)) && pinB ρ σ'.nk C.np)=true):Tr C σ σ':=fun G a w ok=>by
 rw [Bool.and_eq_true] at hi
 obtain ⟨hi,hpn⟩:=hi
 obtain ⟨hp1,hp2⟩:=pinB_of hpn
 refine ⟨G.ren ρ,ok.sz,⟨ok.df.1,hp1,fun k hk=>by
  show G.b (ρ k)=_∧G.n (ρ k)=_∧G.h (ρ k)=_
  rw [hp2 k hk];exact ok.df.2.2 k hk⟩,fun i av h=>?_,ok.bel,ok.fw,ok.f0,ok.f1,fun k ob h=>?_,fun k o x h1 h2=>?_,?_,?_⟩
 ·obtain ⟨h1,h2⟩:=ht.at_ i av h
  exact ⟨(ok.tm i _ h1).1,inn_bd h2,R.ren_ h2 (ok.tm i _ h1).2.2⟩
 ·obtain ⟨h1,h2,h3⟩:=hm.at_ k ob h
  obtain ⟨g1,g2,g3⟩:=ok.ob _ _ h1
  obtain ⟨p,q⟩:=ObAt.ren h2 g3
  exact ⟨h3,p,q⟩
 ·exact ok.my _ _ x (hm.at_ k o h1).1 h2
 ·intro k o k' o' x h1 h2 h3 h4
  have:=ok.dj _ _ _ _ x (hm.at_ k o h1).1 (hm.at_ k' o' h2).1 h3 h4
  exact injB_spec hi k k' (look_mem h1) (look_mem h2) this
 ·intro k o x p u h1 h2 h3
  exact ok.dF _ _ x p u (hm.at_ k o h1).1 h2 h3
theorem zqt {C:Cx} {σ σ':St} (ρ:Nat → Nat) (ht:TrT σ ρ σ'.nk σ'.t:=by repeat (first|exact trivial|refine ⟨⟨?_,?_⟩,?_⟩|rfl)) (hm:TrM σ ρ σ'.nk σ'.M:=by repeat (first|exact trivial|refine ⟨⟨?_,?_,?_⟩,?_⟩|rfl)) (hi:(injB ρ (σ'.M.map (·.1)) && pinB ρ σ'.nk C.np) = true:=by rfl):Tr C σ σ':=Tr.ren ρ ht hm hi
theorem zqu {C:Cx} {σ σ':St} (ρ:Nat → Nat) (hm:TrM σ ρ σ'.nk σ'.M) (hi:(injB ρ (σ'.M.map (·.1)) && pinB ρ σ'.nk C.np) = true) (ht:TrT σ ρ σ'.nk σ'.t:=by repeat (first|exact trivial|refine ⟨⟨?_,?_⟩,?_⟩|rfl)):Tr C σ σ':=Tr.ren ρ ht hm hi
end
end Go.Proofs.YtaeelcfjkhfpkaaGreat
