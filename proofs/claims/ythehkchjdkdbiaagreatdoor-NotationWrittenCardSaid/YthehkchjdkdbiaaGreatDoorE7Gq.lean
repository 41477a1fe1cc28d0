/- A walk that knows values as trees: calls; what is kept, what is forgotten. -/
import Derived.Test.YthehkchjdkdbiaaGreatDoorE1Gq
set_option linter.unusedVariables false
set_option linter.unusedSimpArgs false
namespace Go.Proofs.YthehkchjdkdbiaaGreatDoor
section
open Go.RowKit
def St.ev (σ:St):Operand→Option AV
 | .tmp t=>look t σ.t
 | .const v=>some (.sc v)
 | .func f=>some (.sc (.func (.func f) #[] #[]))
 | .global g=>some (.sc (.pointer (some ⟨g,0,none⟩)))
def St.set(σ:St)(d:Option Tmp)(av:AV):St :=
 match d with
 | none=>σ
 | some d=>{ σ with t:=(d,av)::σ.t }
def St.put(σ:St)(d:Tmp)(av:AV):St:={ σ with t:=(d,av)::σ.t }
section
variable {P:Program} {C:Cx} {σ σ':St} {G G':Gh} {a:Act} {w w':World}
theorem Ok.evr (h:Ok C σ G a w) {x:Operand} {av:AV} (hx:σ.ev x=some av):Bd σ.nk av∧R G av (a.eval x):=by
 cases x with
 | tmp t=>exact⟨(h.tm t av hx).2.1,(h.tm t av hx).2.2⟩
 | const v=>cases hx;exact⟨.sc _,.pu _ _ (.sc _)⟩
 | func f=>cases hx;exact⟨.sc _,.pu _ _ (.sc _)⟩
 | global g=>cases hx;exact⟨.sc _,.pu _ _ (.sc _)⟩
theorem Ok.evs (h:Ok C σ G a w) {x:Operand} {v:Value} (hx:σ.ev x=some (.sc v)):a.eval x=v:=(h.evr hx).2.sc_eq
theorem getD_set_(ts:Array Value)(d i:Nat)(v:Value)(hd:d<ts.size):(ts.setIfInBounds d v).getD i undef=if d=i then v else ts.getD i undef:=by
 by_cases e:d=i
 ·subst e;simp [Array.getD,hd]
 ·simp only [if_neg e,Array.getD_eq_getD_getElem?,Array.getElem?_setIfInBounds_ne e]
theorem Ok.set (h:Ok C σ G a w) {d:Option Tmp} {av:AV} {v:Value} (hR:R G av v)(hb:Bd σ.nk av)(hd:∀ x,d=some x→x<C.N):Ok C (σ.set d av) G (a.put d v) w:=by
 cases d with
 | none=>exact h
 | some d =>
  have hd:=hd d rfl
  refine⟨?_,h.df,?_,h.bel,h.fw,h.f0,h.f1,h.ob,h.my,h.dj,h.dF⟩
  ·show (a.tmps.setIfInBounds d v).size=C.N
   rw [Array.size_setIfInBounds];exact h.sz
  ·intro i x hx
   show i<C.N∧Bd σ.nk x∧R G x ((a.tmps.setIfInBounds d v).getD i undef)
   rw [getD_set_ _ _ _ _ (by rw [h.sz];exact hd)]
   by_cases e:d=i
   ·subst e
    rw [show look d (St.set σ (some d) av).t=some av from look_set_same] at hx
    cases hx
    rw [if_pos rfl]
    exact⟨hd,hb,hR⟩
   ·rw [show look i (St.set σ (some d) av).t=look i σ.t from look_set_other (fun x=>e x.symm)] at hx
    rw [if_neg e]
    exact h.tm i x hx
theorem ownsRowF_keep {w w':World} {B e size n:Nat} {v:Value} {xs:List Value} (h:w.ownsRowF B e size v n xs) (hk:∀ g,v.ownBlock=some g→w'.heap[g]?=w.heap[g]?):w'.ownsRowF B e size v n xs:=by
 refine ⟨h.1,?_⟩
 rcases h.2 with x|⟨g,cap,cur,fz,e,hb,hh,hr⟩
 ·exact .inl x
 ·exact .inr ⟨g,cap,cur,fz,e,hb,(hk g (by rw [e];rfl)).trans hh,hr⟩
theorem RowIs.keep {T n:Nat} {rows:List (List AV)} {v:Value} {φ:Nat→Prop} {X X':Nat→Nat→(Nat→Prop)→AV→Value→Prop} (h:RowIs w T n rows v φ X) (hw:∀ x,φ x→w'.heap[x]?=w.heap[x]?)
  (hX:∀ (i:Nat)r (j:Nat)av ψ u,rows[i]?=some r→r[j]?=some av→(∀ x,ψ x→w'.heap[x]?=w.heap[x]?)→X i j ψ av u→X' i j ψ av u):RowIs w' T n rows v φ X':=by
 obtain ⟨h1,vs,Φ,h2,h3,h4,h5,h6,h7,h8,h9⟩:=h
 exact ⟨h1,vs,Φ,ownsRow_keep h2 fun g hg=>hw g (h5 g hg),h3,h4,h5,h6,h7,h8,fun i r r' j av u a b c d=>hX i r j av _ u a c (fun x hx=>hw x (h6 i j x hx).1) (h9 i r r' j av u a b c d)⟩
theorem ObAt.keep {nk k:Nat} {o:AO} (h:ObAt G w k o) (hle:G.le G' nk) (hk:k<nk) (hb:o.bd nk) (hf:G'.fp k=G.fp k) (hw:∀ x,G.fp k x→w'.heap[x]?=w.heap[x]?):ObAt G' w' k o:=by
 cases o with
 | box T cells =>
  obtain ⟨h1,cs,Φ,h2,h3,h4,h5,h6⟩:=h
  refine ⟨by rw [hf,hle.b k hk];exact h1,cs,Φ,?_,h3,by rw [hf,hle.b k hk];exact h4,h5,fun i av u x y=>(h6 i av u x y).keep hle (hb i av x) fun z hz=>hw z (h4 i z hz).1⟩
  rw [hle.b k hk]
  exact (hw _ h1).trans h2
 | row T n rows =>
  obtain ⟨h1,h2,h3⟩:=h
  refine ⟨by rw [hle.n k hk];exact h1,by rw [hle.h k hk,hle.b k hk];exact h2,?_⟩
  rw [hf,hle.h k hk]
  exact h3.keep hw fun i r j av ψ u _ _ hψ x=>RP.mono hle.F x
 | rwn T n rows =>
  obtain ⟨h1,h2,h3⟩:=h
  refine ⟨by rw [hle.n k hk];exact h1,by rw [hle.h k hk,hle.b k hk];exact h2,?_⟩
  rw [hf,hle.h k hk]
  exact h3.keep hw fun i r j av ψ u _ _ hψ x=>OW.keep hle.F x hψ
 | rof T n rows hi hj y =>
  obtain ⟨h1,h2,h3⟩:=h
  refine ⟨by rw [hle.n k hk];exact h1,by rw [hle.h k hk,hle.b k hk];exact h2,?_⟩
  rw [hf,hle.h k hk]
  refine h3.keep hw fun i r j av ψ u hr hav hψ x=>?_
  unfold XH at x ⊢
  by_cases e:i=hi∧j=hj
  ·rw [if_pos e] at x ⊢
   exact R.mono hle x hb
  ·rw [if_neg e] at x ⊢
   exact RP.mono hle.F x
 | rwo T n rows hi hj y =>
  obtain ⟨h1,h2,h3⟩:=h
  refine ⟨by rw [hle.n k hk];exact h1,by rw [hle.h k hk,hle.b k hk];exact h2,?_⟩
  rw [hf,hle.h k hk]
  refine h3.keep hw fun i r j av ψ u hr hav hψ x=>?_
  unfold XQ at x ⊢
  by_cases e:i=hi∧j=hj
  ·rw [if_pos e] at x ⊢
   exact R.mono hle x hb
  ·rw [if_neg e] at x ⊢
   exact OW.keep hle.F x hψ
 | bld T e l =>
  obtain ⟨h1,p,v,h2,h3,h4,h5⟩:=h
  refine ⟨by rw [hf,hle.b k hk];exact h1,p,v,by rw [hle.b k hk];exact h2,?_,ownsRowF_keep h4 fun g hg=>hw g (h5 g hg).1,by rw [hf,hle.b k hk];exact h5⟩
  rw [hle.b k hk]
  exact (hw _ h1).trans h3
 | opq q =>
  show q.Q w' (G'.b k) (G'.h k) (G'.fp k)
  rw [hle.b k hk,hle.h k hk,hf]
  exact q.st _ _ _ _ _ hw h
theorem Ok.world {S:Nat→Prop} (h:Ok C σ G a w) (hle:G.le G' σ.nk) (hfp:∀ k,k<σ.nk→G'.fp k=G.fp k) (hb:Kept S w w') (hS:∀ x,S x→C.may x) (hw:∀ k o x,look k σ.M=some o→G.fp k x→w'.heap[x]?=w.heap[x]?)
  (hfw:∀ p u,G'.F p=some u→w'.cell? p=some u) (hn:∀ p u,G'.F p=some u→G.F p=some u∨w.heap.size≤p.block):Ok C σ G' a w':=by
 refine ⟨h.sz,⟨h.df.1,h.df.2.1,fun k hk=>by
  have hk2:=Nat.lt_of_lt_of_le hk h.df.2.1
  rw [hle.b k hk2,hle.n k hk2,hle.h k hk2];exact h.df.2.2 k hk⟩,fun i av x=>⟨(h.tm i av x).1,(h.tm i av x).2.1,(h.tm i av x).2.2.mono hle (h.tm i av x).2.1⟩,h.bel.on hb hS,hfw,fun p u x=>hle.F _ _ (h.f0 p u x),?_,?_,?_,?_,?_⟩
 ·intro p u x
  rcases hn p u x with y|y
  ·exact h.f1 p u y
  ·exact .inr (.inl (Nat.le_trans h.bel.size y))
 ·intro k o x
  obtain ⟨a1,a2,a3⟩:=h.ob k o x
  exact ⟨a1,a2,a3.keep hle a1 a2 (hfp k a1) (fun y hy=>hw k o y x hy)⟩
 ·intro k o x h1 h2
  rw [hfp k (h.ob k o h1).1]at h2
  exact ⟨(h.my k o x h1 h2).1,Nat.lt_of_lt_of_le (h.my k o x h1 h2).2 hb.size⟩
 ·intro k o k' o' x h1 h2 h3 h4
  rw [hfp k (h.ob k o h1).1]at h3
  rw [hfp k' (h.ob k' o' h2).1]at h4
  exact h.dj k o k' o' x h1 h2 h3 h4
 ·intro k o x p u h1 h2 h3
  rw [hfp k (h.ob k o h1).1]at h2
  rcases hn p u h3 with y|y
  ·exact h.dF k o x p u h1 h2 y
  ·have:=(h.my k o x h1 h2).2
   omega
theorem Ok.drew (h:Ok C σ G a w):Ok C σ G a w.drew :=
 h.world (S:=fun _=>False) (Gh.le.refl _ _) (fun _ _=>rfl) ⟨rfl,rfl,rfl,Nat.le_refl _,fun _ _ _=>rfl⟩ (fun _ x=>x.elim) (fun _ _ _ _ _=>rfl) h.fw (fun _ _ x=>.inl x)
end
def Tr(C:Cx)(σ σ':St):Prop:=∀ G a w,Ok C σ G a w→∃ G',Ok C σ' G' a w
theorem Tr.trans {C:Cx} {σ σ' σ'':St} (h:Tr C σ σ')(k:Tr C σ' σ''):Tr C σ σ'':=fun G a w x=>by
 obtain⟨G',y⟩:=h G a w x
 exact k G' a w y
def Post(C:Cx)(Q:Exit→St→Prop):Exit→Act→World→Prop:=fun e a w=>∃ σ G,Q e σ∧Ok C σ G a w
def W (P:Program)(C:Cx)(c:Code)(σ:St)(Q:Exit→St→Prop):Prop:=∀ G a w,Ok C σ G a w→c.wp P (Post C Q) a w
def WL (P:Program)(C:Cx)(ops:Array Oper)(l:List Oper)(σ:St)(Q:Exit→St→Prop):Prop:=∀ G a w,Ok C σ G a w→wpList P ops (Post C Q) l a w
def WO(P:Program)(C:Cx)(o:Oper)(σ σ':St):Prop :=
 ∀ G a w,Ok C σ G a w→∀ (N:Act→World→Prop)(Q':Exit→Act→World→Prop),(∀ G' a' w',Ok C σ' G' a' w'→N a' w')→o.wp P a w N Q'
section
variable {P:Program} {C:Cx} {σ σ':St} {Q Q':Exit→St→Prop}
theorem W.tr {c:Code} (h:Tr C σ σ')(k:W P C c σ' Q):W P C c σ Q:=fun G a w x=>by
 obtain⟨G',y⟩:=h G a w x
 exact k G' a w y
theorem WL.tr {ops:Array Oper} {l:List Oper} (h:Tr C σ σ')(k:WL P C ops l σ' Q):WL P C ops l σ Q:=fun G a w x=>by
 obtain⟨G',y⟩:=h G a w x
 exact k G' a w y
theorem W.mono {c:Code} (h:W P C c σ Q)(hq:∀ e s,Q e s→Q' e s):W P C c σ Q':=fun G a w x =>
 wp_mono (h G a w x) fun e a w⟨s,g,q,o⟩=>⟨s,g,hq e s q,o⟩
theorem W.skip(h:Q .normal σ):W P C .skip σ Q:=fun G a w x=>wp_skip ⟨σ,G,h,x⟩
theorem W.exit {id:Nat} (h:Q (.exit id) σ):W P C (.exit id) σ Q:=fun G a w x=>wp_exit ⟨σ,G,h,x⟩
theorem W.ret(h:Q .ret σ):W P C .ret σ Q:=fun G a w x=>wp_ret ⟨σ,G,h,x⟩
def QThen(N:St→Prop)(Q:Exit→St→Prop):Exit→St→Prop
 | .normal,s=>N s
 | e,s=>Q e s
def QBlock (id:Nat)(Q:Exit→St→Prop):Exit→St→Prop
 | .exit id',s=>if id'=id then Q .normal s else Q (.exit id') s
 | e,s=>Q e s
theorem W.seq {x y:Code} (h:W P C x σ (QThen (fun s=>W P C y s Q) Q)):W P C (.seq x y) σ Q:=fun G a w ok =>
 wp_seq (wp_mono (h G a w ok) fun e a w⟨s,g,q,o⟩=>by
  cases e with
  | normal=>exact q g a w o
  | exit id=>exact⟨s,g,q,o⟩
  | goto l=>exact⟨s,g,q,o⟩
  | ret=>exact⟨s,g,q,o⟩
  | panic c=>exact⟨s,g,q,o⟩
  | outgrown=>exact⟨s,g,q,o⟩)
theorem W.block {id:Nat} {c:Code} (h:W P C c σ (QBlock id Q)):W P C (.block id c) σ Q:=fun G a w ok =>
 wp_block (wp_mono (h G a w ok) fun e a w⟨s,g,q,o⟩=>by
  cases e with
  | exit id' =>
   show if id'=id then _ else _
   by_cases e:id'=id
   ·rw [if_pos e];exact⟨s,g,by simpa [QBlock,e] using q,o⟩
   ·rw [if_neg e];exact⟨s,g,by simpa [QBlock,e] using q,o⟩
  | normal=>exact⟨s,g,q,o⟩
  | goto l=>exact⟨s,g,q,o⟩
  | ret=>exact⟨s,g,q,o⟩
  | panic c=>exact⟨s,g,q,o⟩
  | outgrown=>exact⟨s,g,q,o⟩)
theorem W.cond {c:Operand} {x y:Code} {t:Bool} (hc:σ.ev c=some (.sc (.bool t)))(h1:t=true→W P C x σ Q)(h2:t=false→W P C y σ Q):W P C (.cond c x y) σ Q:=fun G a w ok=>by
 refine wp_cond (ok.evs hc) ?_
 cases t
 ·exact h2 rfl G a w ok
 ·exact h1 rfl G a w ok
theorem W.loop {c:Code} {X:Type} (I:X→Prop) (S:X→St) (μ:X→Nat) (x0:X) (h0:I x0) (hi:Tr C σ (S x0))
  (round:∀ x,I x→W P C c (S x) (QThen (fun s=>∃ x',I x'∧μ x'<μ x∧Tr C s (S x')) Q)):W P C (.loop c) σ Q:=by
 intro G a w ok b k cs
 have key:∀ n x G a w,μ x=n→I x→Ok C (S x) G a w→∃ e a' w',Post C Q e a' w'∧Arrives P (lone (b.at a (.code c::.inLoop c::k)) cs w) b k cs e a' w':=by
  intro n
  induction n using Nat.strongRecOn with
  | _ n ih =>
   intro x G a w hn hI ok
   obtain ⟨e,a1,w1,⟨s,g,hq,o1⟩,harr⟩:=round x hI G a w ok b (.inLoop c::k) cs
   cases e with
   | normal =>
    obtain ⟨x',hI',hlt,ht⟩:=hq
    obtain ⟨g',o2⟩:=ht g a1 w1 o1
    obtain ⟨e2,a2,w2,hq2,harr2⟩:=ih (μ x') (hn ▸ hlt) x' g' a1 w1 rfl hI' o2
    exact ⟨e2,a2,w2,hq2,.of_steps (Steps.trans harr (.one step_inLoop)) harr2⟩
   | exit id=>exact ⟨_,a1,w1,⟨s,g,hq,o1⟩,.pass (x:=.inLoop c) rfl (fun _ _=>.inl (by simp)) harr⟩
   | goto l=>exact ⟨_,a1,w1,⟨s,g,hq,o1⟩,.pass (x:=.inLoop c) rfl (fun _ _=>.inl (by simp)) harr⟩
   | ret=>exact ⟨_,a1,w1,⟨s,g,hq,o1⟩,.pass (x:=.inLoop c) rfl (fun _ _=>.inl (by simp)) harr⟩
   | panic ch=>exact ⟨_,a1,w1,⟨s,g,hq,o1⟩,.pass (x:=.inLoop c) rfl (fun _ _=>.inl (by simp)) harr⟩
   | outgrown=>exact ⟨_,a1,w1,⟨s,g,hq,o1⟩,.pass (x:=.inLoop c) rfl (fun _ _=>.inl (by simp)) harr⟩
 obtain ⟨g0,ok0⟩:=hi G a w ok
 obtain ⟨e,a',w',hq,harr⟩:=key _ x0 g0 a w rfl h0 ok0
 exact ⟨e,a',w',hq,.of_steps (.one step_loop) harr⟩
theorem W.region {id:Nat} {l:List Oper} (h:WL P C l.toArray l σ Q):W P C (.region id l.toArray false) σ Q:=fun G a w ok=>wp_region_lit (h G a w ok)
theorem WL.nil {ops:Array Oper} (h:Q .normal σ):WL P C ops [] σ Q:=fun G a w ok=>wpList_nil ⟨σ,G,h,ok⟩
theorem WL.op {ops:Array Oper} {o:Oper} {rest:List Oper} (hg:o.guard=none)(h:WO P C o σ σ')(k:WL P C ops rest σ' Q):WL P C ops (o::rest) σ Q:=fun G a w ok =>
 wpList_plain hg fun K hK=>h G a w ok K _ fun G' a' w' ok'=>hK _ _ (k G' a' w' ok')
theorem of_blt {a b:Nat} (h:Nat.blt a b=true):a<b:=Nat.lt_of_succ_le (by simpa [Nat.blt]using h)
def vb:Value→Option Bool
 | .bool b=>some b
 | _=>none
theorem yielded_of {ops:Array Oper} {G:Gh} {a:Act} {w:World} (ok:Ok C σ G a w) {j:Nat} {oj:Oper} {d:Tmp} {v:Value} (hj:ops[j]?=some oj)(hd:oj.dst=some d)(hv:look d σ.t=some (.sc v)) :
  yielded ops a.tmps j=vb v:=by
 have h1:=ok.tm d _ hv
 have h2:=h1.2.2.sc_eq
 have h3:a.tmps[d]?=some v:=by
  have hlt:d<a.tmps.size:=by rw [ok.sz];exact h1.1
  rw [Array.getElem?_eq_getElem hlt]
  simpa [Array.getD,hlt]using h2
 simp only [yielded,hj,Option.bind_some,hd,h3]
 cases v<;>rfl
theorem WL.opn {ops:Array Oper} {o oj:Oper} {rest:List Oper} {j:Nat} {b:Bool} {d d':Tmp} {v:Value} (hg:o.guard=some (j,b)) (hj:ops[j]?=some oj) (hd:oj.dst=some d) (hv:look d σ.t=some (.sc v))
  (hb:vb v≠some b) (hds:o.dst=some d') (hdn:Nat.blt d' C.N=true) (h:WL P C ops rest (σ.put d' (.sc undef)) Q):WL P C ops (o::rest) σ Q:=fun G a w ok =>
 wpList_step fun K hK=>by
  have hy:=yielded_of (ops:=ops) ok hj hd hv
  rw [if_neg (by simp only [Region.wanted,hg,hy];simpa using hb)]
  rw [hds]
  exact hK _ _ (h G _ w (ok.set (d:=some d') (.pu _ _ (.sc _)) (.sc _) fun x hx=>by cases hx;exact of_blt hdn))
theorem WL.part {ops:Array Oper} {l:List Oper} {d:Tmp} {b:Bool} (hv:look d σ.t=some (.sc (.bool b))) (h1:b=true→WL P C ops l (σ.set (some d) (.sc (.bool true))) Q) (h2:b=false→WL P C ops l (σ.set (some d) (.sc (.bool false))) Q):WL P C ops l σ Q:=fun G a w ok=>by
 have key:∀ c,b=c→Ok C (σ.set (some d) (.sc (.bool c))) G a w:=fun c e=>by
  subst e
  refine ⟨ok.sz,ok.df,fun i x hx=>?_,ok.bel,ok.fw,ok.f0,ok.f1,ok.ob,ok.my,ok.dj,ok.dF⟩
  by_cases hi:i=d
  ·subst hi
   rw [show look i (St.set σ (some i) (.sc (.bool b))).t=_ from look_set_same] at hx
   cases hx
   exact ok.tm i _ hv
  ·rw [show look i (St.set σ (some d) (.sc (.bool b))).t=_ from look_set_other hi] at hx
   exact ok.tm i x hx
 cases b
 ·exact h2 rfl G a w (key _ rfl)
 ·exact h1 rfl G a w (key _ rfl)
end
def Ctr(P:Program)(f:FuncId)(args:List AV)(res:AV):Prop :=
 ∀ (w:World)(F:View)(vs:List Value),(∀ p u,F p=some u→w.cell? p=some u)→RL F args vs →
  Calls P f vs.toArray w fun e w'=>∃ v F',e=.returned v∧Below w.heap.size w w'∧View.le F F'∧(∀ p u,F' p=some u→w'.cell? p=some u)∧(∀ p u,F' p=some u→F p=some u∨w.heap.size≤p.block)∧RP F' res v
def number {α:Type}:Nat→List α→List (Nat×α)
 | _,[]=>[]
 | n,x::r=>(n,x)::number (n+1) r
theorem look_number {α:Type}:∀ (l:List α)(n i:Nat)(x:α),look i (number n l)=some x→n≤i∧l[i-n]?=some x
 | [],n,i,x,h=>by cases h
 | y::r,n,i,x,h=>by
  by_cases e:i=n
  ·subst e
   rw [show look i (number i (y::r))=some y from look_set_same] at h
   cases h
   simp
  ·rw [show look i (number n (y::r))=look i (number (n+1) r) from look_set_other e] at h
   obtain⟨h1,h2⟩:=look_number r (n+1) i x h
   refine⟨by omega,?_⟩
   rw [show i-n=(i-(n+1))+1 by omega]
   simpa using h2
def St.init(args:List AV):St:=⟨number 0 args,[],0⟩
def G0:Gh:=⟨fun _=>none,fun _=>0,fun _=>0,fun _=>undef,fun _ _=>False⟩
def Fin(P:Program)(fn:Func)(C:Cx)(σ:St)(res:AV):Prop :=
 ∀ G a w,Ok C σ G a w→∃ v F',(results fn a.tmps).run P w=.ok v w∧View.le G.F F'∧(∀ p u,F' p=some u→w.cell? p=some u)∧(∀ p u,F' p=some u→G.F p=some u∨C.may p.block)∧RP F' res v
def QFin(P:Program)(fn:Func)(C:Cx)(res:AV):Exit→St→Prop:=fun e σ=>(e=.normal∨e=.ret)∧Fin P fn C σ res
theorem Ctr.intro {P:Program} {f:FuncId} {fn:Func} {c:Code} {args:List AV} {res:AV} (hf:P.funcs[f]?=some fn) (hb:fn.body=some c) {N:Nat} (hN:fn.ntmps=N) (hn:args.length≤N) (hp:∀ (i:Nat) av,args[i]?=some av→Bd 0 av)
  (h:∀ w0 F0,W P ⟨w0,F0,N,fun _=>False,0,G0,[]⟩ c (St.init args) (QFin P fn ⟨w0,F0,N,fun _=>False,0,G0,[]⟩ res)):Ctr P f args res:=by
 intro w F vs hF hR
 subst hN
 refine calls_of_wp hf hb ?_
 have hsz:vs.toArray.size=args.length:=by simpa using hR.1
 have h1:=h w F ⟨F,fun _=>0,fun _=>0,fun _=>undef,fun _ _=>False⟩ { tmps:=vs.toArray++Array.replicate (fn.ntmps - vs.toArray.size) undef,defers:=[] } w
  ⟨by simp;have:=hR.1;omega,⟨rfl,Nat.le_refl _,fun k hk=>absurd hk (Nat.not_lt_zero k)⟩,fun i av hx=>by
   obtain ⟨_,h2⟩:=look_number args 0 i av hx
   simp only [Nat.sub_zero] at h2
   have hi:i < args.length:=(List.getElem?_eq_some_iff.1 h2).1
   have hv:i < vs.length:=by rw [hR.1];exact hi
   refine ⟨by show i < fn.ntmps;omega,hp i av h2,.pu _ _ (hR.2 i av _ h2 ?_)⟩
   simp [Array.getD_eq_getD_getElem?,Array.getElem?_append_left,hv],
   Kept.refl _ _,hF,fun _ _ h=>h,fun _ _ h=>.inl h,(fun k o h=>by cases h),(fun k o x h=>by cases h),(fun k o k' o' x h=>by cases h),(fun k o x p u h=>by cases h)⟩
 refine wp_mono h1 fun e a w' ⟨σ,G,⟨he,hfin⟩,ok⟩=>?_
 obtain ⟨v,F',hr,hle,hfw,hnew,hres⟩:=hfin G a w' ok
 rcases he with rfl|rfl
 ·exact ⟨ok.df.1,v,hr,v,F',rfl,ok.bel.to_below (fun _ h=>h),fun p u x=>hle p u (ok.f0 p u x),hfw,fun p u x=>(hnew p u x).elim (fun y=>(ok.f1 p u y).elim .inl fun z=>.inr (z.elim id fun h=>h.elim)) fun z=>.inr (z.elim id fun h=>h.elim),hres⟩
 ·exact ⟨ok.df.1,v,hr,v,F',rfl,ok.bel.to_below (fun _ h=>h),fun p u x=>hle p u (ok.f0 p u x),hfw,fun p u x=>(hnew p u x).elim (fun y=>(ok.f1 p u y).elim .inl fun z=>.inr (z.elim id fun h=>h.elim)) fun z=>.inr (z.elim id fun h=>h.elim),hres⟩
theorem Bd.rp {G:Gh} {av:AV} {v:Value} (b:Bd 0 av)(r:R G av v):RP G.F av v:=by
 induction r with
 | pu _ _ h=>exact h
 | pt k i j p=>cases b with|pt _ _ _ h=>exact absurd h zqo
 | sl k=>cases b with|sl _ h=>exact absurd h zqo
 | ag l cs h1 _ ih=>cases b with|ag _ hb=>exact .ag l cs h1 fun i av u x y=>ih i av u x y (hb i av x)
 | tu l cs h1 _ ih=>cases b with|tu _ hb=>exact .tu l cs h1 fun i av u x y=>ih i av u x y (hb i av x)
 | fn f l cs h1 _ ih=>cases b with|fn _ _ hb=>exact .fn f l cs h1 fun i av u x y=>ih i av u x y (hb i av x)
theorem Fin.one {P:Program} {fn:Func} {C:Cx} {σ:St} {t:Tmp} {res:AV} (h:fn.results=#[.tmp t])(ht:look t σ.t=some res)(hb:Bd 0 res):Fin P fn C σ res:=fun G a w ok =>
 ⟨a.tmps.getD t undef,G.F,results_tmp h _ _ _,fun _ _ h=>h,ok.fw,fun _ _ h=>.inl h,hb.rp (ok.tm t _ ht).2.2⟩
theorem Fin.two {P:Program} {fn:Func} {C:Cx} {σ:St} {t u:Tmp} {r1 r2:AV} (h:fn.results=#[.tmp t,.tmp u])(h1:look t σ.t=some r1)(h2:look u σ.t=some r2)(b1:Bd 0 r1)(b2:Bd 0 r2):Fin P fn C σ (.tu [r1,r2]):=fun G a w ok =>
 ⟨.tuple #[a.tmps.getD t undef,a.tmps.getD u undef],G.F,results_tmp2 h _ _ _,fun _ _ h=>h,ok.fw,fun _ _ h=>.inl h,.tu _ _ rfl fun i av x ha hx=>by
  match i with
  | 0=>cases ha;cases hx;exact b1.rp (ok.tm t _ h1).2.2
  | 1=>cases ha;cases hx;exact b2.rp (ok.tm u _ h2).2.2
  | n+2=>simp at ha⟩
end
section
open Go.RowKit
section
variable {P:Program} {C:Cx} {σ σ':St} {o:Oper} {d:Tmp}
def WV (P:Program)(C:Cx)(o:Oper)(σ:St)(av:AV):Prop :=
 ∀ G a w,Ok C σ G a w→∀ (N:Act→World→Prop)(Q':Exit→Act→World→Prop),
  (∀ v G' w',(∀ σ'' a'',Ok C σ'' G a'' w→Ok C σ'' G' a'' w')→R G' av v→Bd σ.nk av→N (a.put o.dst v) w')→o.wp P a w N Q'
theorem WO.of_wv {av:AV} (hds:o.dst=some d)(hd:Nat.blt d C.N=true)(h:WV P C o σ av):WO P C o σ (σ.put d av):=fun G a w ok N Q' hN =>
 h G a w ok N Q' fun v G' w' hk hr hb=>by
  rw [hds]
  exact hN G' _ w' ((hk σ a ok).set (d:=some d) hr hb fun x hx=>by cases hx;exact of_blt hd)
theorem WL.opv {ops:Array Oper} {rest:List Oper} {Q:Exit→St→Prop} {av:AV} (hg:o.guard=none)(hds:o.dst=some d)(hd:Nat.blt d C.N=true)(h:WV P C o σ av)(k:WL P C ops rest (σ.put d av) Q):WL P C ops (o::rest) σ Q :=
 WL.op hg (WO.of_wv hds hd h) k
theorem WV.val {av:AV} (hb:∀ G a w,Ok C σ G a w→Bd σ.nk av)(h:∀ G a w,Ok C σ G a w→∃ v,(execOp a.eval o).run P w=.ok (.value v) w∧R G av v):WV P C o σ av:=by
 intro G a w ok N Q' hN
 obtain⟨v,h1,h2⟩:=h G a w ok
 unfold Oper.wp
 rw [h1]
 exact hN v G w (fun _ _ h=>h) h2 (hb G a w ok)
theorem WV.sc {v:Value} (h:∀ G a w,Ok C σ G a w→(execOp a.eval o).run P w=.ok (.value v) w):WV P C o σ (.sc v) :=
 WV.val (fun _ _ _ _=>.sc v) fun G a w ok=>⟨v,h G a w ok,.pu _ _ (.sc v)⟩
theorem WV.move {x:Operand} {av:AV} (ho:o.op=.move x)(hx:σ.ev x=some av):WV P C o σ av :=
 WV.val (fun G a w ok=>(ok.evr hx).1) fun G a w ok=>⟨a.eval x,by unfold execOp;simp only [ho];rfl,(ok.evr hx).2⟩
theorem WV.assign {x:Operand} {av:AV} (ho:o.op=.assign x)(hx:σ.ev x=some av):WV P C o σ av :=
 WV.val (fun G a w ok=>(ok.evr hx).1) fun G a w ok=>⟨a.eval x,by unfold execOp;simp only [ho];rfl,(ok.evr hx).2⟩
theorem WV.pickT {c x y:Operand} {av:AV} (ho:o.op=.pick c x y)(hc:σ.ev c=some (.sc (.bool true)))(hx:σ.ev x=some av):WV P C o σ av :=
 WV.val (fun G a w ok=>(ok.evr hx).1) fun G a w ok=>⟨a.eval x,by unfold execOp;simp [ho,ok.evs hc,asBool],(ok.evr hx).2⟩
theorem WV.pickF {c x y:Operand} {av:AV} (ho:o.op=.pick c x y)(hc:σ.ev c=some (.sc (.bool false)))(hy:σ.ev y=some av):WV P C o σ av :=
 WV.val (fun G a w ok=>(ok.evr hy).1) fun G a w ok=>⟨a.eval y,by unfold execOp;simp [ho,ok.evs hc,asBool],(ok.evr hy).2⟩
theorem WV.pickS {c x y:Operand} {b:Bool} {u v:Value} (ho:o.op=.pick c x y)(hc:σ.ev c=some (.sc (.bool b)))(hx:σ.ev x=some (.sc u))(hy:σ.ev y=some (.sc v)):WV P C o σ (.sc (if b=true then u else v)) :=
 WV.sc fun G a w ok=>by unfold execOp;cases b<;>simp [ho,ok.evs hc,ok.evs hx,ok.evs hy,asBool]
def I64(z:Int):Prop:=-9223372036854775808≤z∧z<9223372036854775808
theorem I64.wrap {z:Int} (h:I64 z):IntKind.i64.wrap z=z:=Go.IntWalk.i64_in z ⟨h.1,by have:=h.2;omega⟩
theorem WV.add {T Ty:TypeId} {x y:Operand} {m n:Int} (ho:o.op=.binOp .add T x y Ty)(hx:σ.ev x=some (.sc (.int .i64 m)))(hy:σ.ev y=some (.sc (.int .i64 n)))(hb:I64 (m+n)):WV P C o σ (.sc (.int .i64 (m+n))) :=
 WV.sc fun G a w ok=>by unfold execOp;simp [ho,ok.evs hx,ok.evs hy,eqGuard,binOp,Op.intArith,hb.wrap]
theorem WV.sub {T Ty:TypeId} {x y:Operand} {m n:Int} (ho:o.op=.binOp .sub T x y Ty)(hx:σ.ev x=some (.sc (.int .i64 m)))(hy:σ.ev y=some (.sc (.int .i64 n)))(hb:I64 (m-n)):WV P C o σ (.sc (.int .i64 (m-n))) :=
 WV.sc fun G a w ok=>by unfold execOp;simp [ho,ok.evs hx,ok.evs hy,eqGuard,binOp,Op.intArith,hb.wrap]
theorem WV.mul {T Ty:TypeId} {x y:Operand} {m n:Int} (ho:o.op=.binOp .mul T x y Ty)(hx:σ.ev x=some (.sc (.int .i64 m)))(hy:σ.ev y=some (.sc (.int .i64 n)))(hb:I64 (m*n)):WV P C o σ (.sc (.int .i64 (m*n))) :=
 WV.sc fun G a w ok=>by unfold execOp;simp [ho,ok.evs hx,ok.evs hy,eqGuard,binOp,Op.intArith,hb.wrap]
theorem WV.lss {T Ty:TypeId} {x y:Operand} {k:IntKind} {m n:Int} (ho:o.op=.binOp .lss T x y Ty)(hx:σ.ev x=some (.sc (.int k m)))(hy:σ.ev y=some (.sc (.int k n))):WV P C o σ (.sc (.bool (decide (m<n)))) :=
 WV.sc fun G a w ok=>by unfold execOp;simp [ho,ok.evs hx,ok.evs hy,eqGuard,binOp,Op.intCmp]
theorem WV.leq {T Ty:TypeId} {x y:Operand} {k:IntKind} {m n:Int} (ho:o.op=.binOp .leq T x y Ty)(hx:σ.ev x=some (.sc (.int k m)))(hy:σ.ev y=some (.sc (.int k n))):WV P C o σ (.sc (.bool (decide (m≤n)))) :=
 WV.sc fun G a w ok=>by unfold execOp;simp [ho,ok.evs hx,ok.evs hy,eqGuard,binOp,Op.intCmp]
theorem WV.gtr {T Ty:TypeId} {x y:Operand} {k:IntKind} {m n:Int} (ho:o.op=.binOp .gtr T x y Ty)(hx:σ.ev x=some (.sc (.int k m)))(hy:σ.ev y=some (.sc (.int k n))):WV P C o σ (.sc (.bool (decide (n<m)))) :=
 WV.sc fun G a w ok=>by unfold execOp;simp [ho,ok.evs hx,ok.evs hy,eqGuard,binOp,Op.intCmp]
theorem WV.geq {T Ty:TypeId} {x y:Operand} {k:IntKind} {m n:Int} (ho:o.op=.binOp .geq T x y Ty)(hx:σ.ev x=some (.sc (.int k m)))(hy:σ.ev y=some (.sc (.int k n))):WV P C o σ (.sc (.bool (decide (n≤m)))) :=
 WV.sc fun G a w ok=>by unfold execOp;simp [ho,ok.evs hx,ok.evs hy,eqGuard,binOp,Op.intCmp]
theorem WV.eql {T Ty:TypeId} {x y:Operand} {k:IntKind} {m n:Int} (ho:o.op=.binOp .eql T x y Ty)(hx:σ.ev x=some (.sc (.int k m)))(hy:σ.ev y=some (.sc (.int k n))):WV P C o σ (.sc (.bool (decide (m=n)))) :=
 WV.sc fun G a w ok=>by unfold execOp;simp [ho,ok.evs hx,ok.evs hy,eqGuard,binOp,Op.intCmp];rfl
theorem WV.neq {T Ty:TypeId} {x y:Operand} {k:IntKind} {m n:Int} (ho:o.op=.binOp .neq T x y Ty)(hx:σ.ev x=some (.sc (.int k m)))(hy:σ.ev y=some (.sc (.int k n))):WV P C o σ (.sc (.bool (!decide (m=n)))) :=
 WV.sc fun G a w ok=>by unfold execOp;simp [ho,ok.evs hx,ok.evs hy,eqGuard,binOp,Op.intCmp];rfl
theorem WV.not {T:TypeId} {x:Operand} {b:Bool} (ho:o.op=.unOp .not T x)(hx:σ.ev x=some (.sc (.bool b))):WV P C o σ (.sc (.bool (!b))) :=
 WV.sc fun G a w ok=>by unfold execOp;simp [ho,ok.evs hx,Op.unary]
theorem WV.beq {T Ty:TypeId} {x y:Operand} {b c:Bool} (ho:o.op=.binOp .eql T x y Ty)(hT:P.underlying T=some .bool)(hx:σ.ev x=some (.sc (.bool b)))(hy:σ.ev y=some (.sc (.bool c))):WV P C o σ (.sc (.bool (b == c))) :=
 WV.sc fun G a w ok=>by unfold execOp;simp [ho,ok.evs hx,ok.evs hy,eqGuard,binOp,run_equal_bool w T b c hT]
theorem WV.bne {T Ty:TypeId} {x y:Operand} {b c:Bool} (ho:o.op=.binOp .neq T x y Ty)(hT:P.underlying T=some .bool)(hx:σ.ev x=some (.sc (.bool b)))(hy:σ.ev y=some (.sc (.bool c))):WV P C o σ (.sc (.bool (!(b == c)))) :=
 WV.sc fun G a w ok=>by unfold execOp;simp [ho,ok.evs hx,ok.evs hy,eqGuard,binOp,run_equal_bool w T b c hT]
def scs:List AV→Option (List Value)
 | []=>some []
 | .sc v::r=>(scs r).map (v::·)
 | _=>none
theorem scs_of {G:Gh}:∀ {l:List AV} {xs:List Value},scs l=some xs→∀ {cs:List Value},cs.length=l.length→(∀ (i:Nat) av u,l[i]?=some av→cs[i]?=some u→R G av u)→cs=xs:=by
 intro l
 induction l with
 | nil=>intro xs h cs hl _;cases h;exact List.eq_nil_of_length_eq_zero hl
 | cons a r ih =>
  intro xs h cs hl hc
  cases a with
  | sc v =>
   cases hr:scs r with
   | none=>simp [scs,hr] at h
   | some ys =>
    simp [scs,hr] at h
    subst h
    cases cs with
    | nil=>simp at hl
    | cons u us =>
     have h0:=(hc 0 (.sc v) u rfl rfl).sc_eq
     have:=ih hr (cs:=us) (by simpa using hl) (fun i av x p q=>hc (i+1) av x (by simpa using p) (by simpa using q))
     rw [h0,this]
  | _=>simp [scs] at h
theorem WV.seq_ {T Ty:TypeId} {x y:Operand} {s t:List UInt8} (ho:o.op=.binOp .eql T x y Ty)(hx:σ.ev x=some (.sc (.string (bs s))))(hy:σ.ev y=some (.sc (.string (bs t)))):WV P C o σ (.sc (.bool (s == t))) :=
 WV.sc fun G a w ok=>by unfold execOp;simp [ho,ok.evs hx,ok.evs hy,eqGuard,binOp,Op.stringOp,bs_toList]
theorem WV.sne {T Ty:TypeId} {x y:Operand} {s t:List UInt8} (ho:o.op=.binOp .neq T x y Ty)(hx:σ.ev x=some (.sc (.string (bs s))))(hy:σ.ev y=some (.sc (.string (bs t)))):WV P C o σ (.sc (.bool (!(s == t)))) :=
 WV.sc fun G a w ok=>by unfold execOp;simp [ho,ok.evs hx,ok.evs hy,eqGuard,binOp,Op.stringOp,bs_toList]
theorem WV.cat {T Ty:TypeId} {x y:Operand} {s t:List UInt8} (ho:o.op=.binOp .add T x y Ty)(hx:σ.ev x=some (.sc (.string (bs s))))(hy:σ.ev y=some (.sc (.string (bs t))))(hl:s.length+t.length<9223372036854775808):WV P C o σ (.sc (.string (bs (s++t)))) :=
 WV.sc fun G a w ok=>by
  have h1:¬ ((((bs s).size+(bs t).size:Nat):Int) > IntKind.i64.max):=by
   rw [bs_size,bs_size]
   have:IntKind.i64.max=9223372036854775807:=by decide
   rw [this];omega
  unfold execOp
  simp only [ho,ok.evs hx,ok.evs hy,eqGuard,binOp,Op.stringOp,if_neg h1]
  simp [bs_append]
theorem WV.extract {x:Operand} {i:Nat} {l:List AV} {av:AV} (ho:o.op=.extract x i)(hx:σ.ev x=some (.tu l))(hi:l[i]?=some av):WV P C o σ av :=
 WV.val (fun G a w ok=>by cases (ok.evr hx).1 with|tu _ h=>exact h i av hi) fun G a w ok=>by
  obtain⟨cs,e,h1,h2⟩:=(ok.evr hx).2.tu_of
  have hlt:i<cs.size:=by rw [h1];exact (List.getElem?_eq_some_iff.1 hi).1
  refine⟨cs[i],?_,h2 i av _ hi (Array.getElem?_eq_getElem hlt)⟩
  unfold execOp
  simp [ho,e,Instr.extract,Array.getElem?_eq_getElem hlt]
theorem WV.lenL {x:Operand} {T e:TypeId} {n:Nat} {rows:List (List AV)} (ho:o.op=.call { callee:=.builtin .len,args:=#[x],argTypes:=#[T] })(hT:P.underlying T=some (.slice e))(hx:σ.ev x=some (.ls n rows)) {m:Nat} (hm:rows.length=m):WV P C o σ (.sc (.int .i64 m)) :=
 WV.sc fun G a w ok=>by
  obtain⟨A,cap,ad,u,e,_⟩:=(ok.evr hx).2.pu_of.ls_of
  subst hm
  unfold execOp
  simp [ho,resolve,invoke,builtin,e,Builtin.len_,run_underlying hT,goInt]
theorem RowIs.len {w:World} {T n:Nat} {rows:List (List AV)} {v:Value} {φ:Nat→Prop} {X:Nat→Nat→(Nat→Prop)→AV→Value→Prop} (h:RowIs w T n rows v φ X):∃ A c,v=.slice A rows.length c:=by
 obtain⟨_,vs,Φ,h4,h5,_⟩:=h
 rcases h4.2 with⟨e,e2⟩|⟨g,cap,cur,e,_⟩
 ·exact⟨none,0,by rw [e,← h5,e2]⟩
 ·exact⟨_,cap,by rw [e,h5]⟩
def AO.rows?:AO→Option (List (List AV))
 | .row _ _ rows=>some rows
 | .rwn _ _ rows=>some rows
 | .rof _ _ rows _ _ _=>some rows
 | .rwo _ _ rows _ _ _=>some rows
 | _=>none
theorem ObAt.len {G:Gh} {w:World} {k:Nat} {ob:AO} {rows:List (List AV)} (h:ObAt G w k ob)(hr:ob.rows?=some rows):∃ A c,G.h k=.slice A rows.length c:=by
 cases ob with
 | row T n rs=>cases hr;exact h.2.2.len
 | rwn T n rs=>cases hr;exact h.2.2.len
 | rof T n rs hi hj y=>cases hr;exact h.2.2.len
 | rwo T n rs hi hj y=>cases hr;exact h.2.2.len
 | _=>cases hr
theorem WV.lenS {x:Operand} {T e:TypeId} {k:Nat} {ob:AO} {rows:List (List AV)} (ho:o.op=.call { callee:=.builtin .len,args:=#[x],argTypes:=#[T] })(hT:P.underlying T=some (.slice e))(hx:σ.ev x=some (.sl k))(hk:look k σ.M=some ob)(hr:ob.rows?=some rows) {m:Nat} (hm:rows.length=m):WV P C o σ (.sc (.int .i64 m)) :=
 WV.sc fun G a w ok=>by
  have e:=(ok.evr hx).2.sl_of.1
  obtain⟨A,c,e2⟩:=(ok.ob k _ hk).2.2.len hr
  rw [e2]at e
  subst hm
  unfold execOp
  simp [ho,resolve,invoke,builtin,e,Builtin.len_,run_underlying hT,goInt]
theorem WV.lenN {x:Operand} {T e:TypeId} {A:Option Addr} {m c:Nat} (ho:o.op=.call { callee:=.builtin .len,args:=#[x],argTypes:=#[T] })(hT:P.underlying T=some (.slice e))(hx:σ.ev x=some (.sc (.slice A m c))):WV P C o σ (.sc (.int .i64 m)) :=
 WV.sc fun G a w ok=>by
  unfold execOp
  simp [ho,resolve,invoke,builtin,ok.evs hx,Builtin.len_,run_underlying hT,goInt]
theorem WV.lenB {x:Operand} {T:TypeId} {s:List UInt8} (ho:o.op=.call { callee:=.builtin .len,args:=#[x],argTypes:=#[T] })(hT:P.underlying T=some .string)(hx:σ.ev x=some (.sc (.string (bs s)))):WV P C o σ (.sc (.int .i64 s.length)) :=
 WV.sc fun G a w ok=>by
  unfold execOp
  simp [ho,resolve,invoke,builtin,ok.evs hx,Builtin.len_,run_underlying hT,goInt,bs_size]
theorem add_ptr {b j:Nat} (p:Addr)(h1:p.block=b)(h3:p.spot=none):(p.add j).block=b∧(p.add j).off=p.off+j∧(p.add j).spot=none:=by
 unfold Addr.add
 by_cases e:j=0
 ·subst e;simp [h1,h3]
 ·simp [e,h1]
end
end
section
open Go.RowKit
def fldB (P:Program)(T i:Nat):Option Nat :=
 match P.underlying T with
 | some (.struct fs) =>
  match fs[i]? with
  | some f=>if P.cellsOf f.type=0 then none else some f.offset
  | none=>none
 | _=>none
def aggB (P:Program)(T:TypeId):Option Bool :=
 match P.underlying T with
 | some (.struct _)|some (.array _ _)=>some true
 | some _=>some false
 | none=>none
def sizeB (P:Program)(T:TypeId):Option Nat:=(P.info? T).map (·.size)
section
variable {P:Program} {C:Cx} {σ σ':St} {o:Oper} {d:Tmp}
theorem run_sizeB {T n:Nat} (h:sizeB P T=some n)(w:World):(sizeOf T).run P w=.ok n w:=by
 unfold sizeB at h
 cases hi:P.info? T with
 | none=>simp [hi]at h
 | some i =>
  simp [hi]at h
  simp [sizeOf,typeInfo,hi,h]
theorem run_aggB {T:Nat} {b:Bool} (h:aggB P T=some b)(w:World):(isAgg T).run P w=.ok b w:=by
 unfold aggB at h
 cases hu:P.underlying T with
 | none=>simp [hu]at h
 | some u =>
  unfold isAgg
  rw [Sem.run_bind,run_underlying hu w]
  cases u<;>simp_all
theorem run_fld {T i off:Nat} (h:fldB P T i=some off)(p:Addr)(w:World):(Instr.fieldAt T (.pointer (some p)) i).run P w=.ok (.pointer (some (p.add off))) w:=by
 unfold fldB at h
 cases hu:P.underlying T with
 | none=>simp [hu] at h
 | some u =>
  cases u with
  | struct fs =>
   simp only [hu] at h
   cases hf:fs[i]? with
   | none=>simp [hf] at h
   | some f =>
    simp only [hf] at h
    by_cases h0:P.cellsOf f.type=0
    ·rw [if_pos h0] at h;cases h
    ·rw [if_neg h0] at h
     cases h
     cases hq:P.info? f.type with
     | none=>exact absurd (by unfold Program.cellsOf;rw [hq];rfl) h0
     | some q =>
      have hne:q.size≠0:=by
       intro e;apply h0;unfold Program.cellsOf;rw [hq];exact e
      simp [Instr.fieldAt,Instr.sureAddr,fieldPlace,run_underlying hu,hf,sizeOf,typeInfo,hq,hne]
  | _=>simp [hu] at h
theorem WV.fieldP {T:TypeId} {x:Operand} {i off k r j:Nat} (ho:o.op=.fieldAddr T x i)(hf:fldB P T i=some off)(hx:σ.ev x=some (.pt k r j)):WV P C o σ (.pt k r (j+off)) :=
 WV.val (fun G a w ok=>by cases (ok.evr hx).1 with|pt _ _ _ h=>exact .pt _ _ _ h) fun G a w ok=>by
  obtain⟨p,e,h1,h2,h3⟩:=(ok.evr hx).2.pt_of
  obtain⟨q1,q2,q3⟩:=add_ptr (j:=off) p h1 h3
  exact⟨_,by unfold execOp;simp [ho,e,run_fld hf],.pt k r (j+off) _ q1 (by omega) q3⟩
theorem WV.fieldR {T:TypeId} {x:Operand} {i off:Nat} {cells:List AV} (ho:o.op=.fieldAddr T x i) (hf:fldB P T i=some off) (hx:σ.ev x=some (.pr cells)):WV P C o σ (.pr (cells.drop off)) :=
 WV.val (fun _ _ _ _=>.pr _) fun G a w ok=>by
  obtain ⟨p,u,e,h1,h2⟩:=(ok.evr hx).2.pr_of.pr_of
  refine ⟨.pointer (some (p.add off)),by unfold execOp;simp [ho,e,run_fld hf],.pu _ _ (.pr _ _ (fun j=>u (off+j)) (fun j av h=>?_) fun j av h=>?_)⟩
  ·rw [List.getElem?_drop] at h
   rw [add_of_add]
   exact h1 _ av h
  ·rw [List.getElem?_drop] at h
   exact h2 _ av h
theorem run_index {T e n:Nat} (hT:P.underlying T=some (.slice e)) (hn:sizeB P e=some n) (ad:Addr) (len cap:Nat) (k:IntKind) (z:Int) (h0:0≤z) (h1:z<len) (w:World) :
  (Instr.indexAt T (.slice (some ad) len cap) (.int k z)).run P w=.ok (.pointer (some (ad.add (z.toNat*n)))) w:=by
 simp [Instr.indexAt,asIntOf,run_underlying hT,h0,h1,run_sizeB hn]
theorem WV.indexL {T e n:Nat} {x y:Operand} {rows:List (List AV)} {k:IntKind} {z:Int} {r:List AV} (ho:o.op=.indexAddr T x y) (hT:P.underlying T=some (.slice e)) (hn:sizeB P e=some n)
  (hx:σ.ev x=some (.ls n rows)) (hy:σ.ev y=some (.sc (.int k z))) (h0:0≤z) (hr:rows[z.toNat]?=some r):WV P C o σ (.pr r) :=
 WV.val (fun _ _ _ _=>.pr _) fun G a w ok=>by
  obtain ⟨A,cap,ad,u,e1,h1,h2,h3,h4,_⟩:=(ok.evr hx).2.pu_of.ls_of
  have hlt:z.toNat<rows.length:=(List.getElem?_eq_some_iff.1 hr).1
  obtain rfl:=h2 zqo
  refine ⟨.pointer (some (ad.add (z.toNat*n))),by unfold execOp;simp [ho,e1,ok.evs hy,run_index hT hn ad rows.length cap k z h0 (by omega)],.pu _ _ (.pr _ _ (fun j=>u z.toNat j) (fun j av h=>?_) fun j av h=>?_)⟩
  ·rw [add_of_add];exact h3 _ r j av hr h
  ·exact h4 _ r j av hr h
theorem RowIs.base {w:World} {T n:Nat} {rows:List (List AV)} {v:Value} {φ:Nat→Prop} {b:Nat} {X:Nat→Nat→(Nat→Prop)→AV→Value→Prop} (h:RowIs w T n rows v φ X) (hg:∀ g,v.ownBlock=some g→g=b) (hp:0<rows.length):∃ c,v=.slice (some ⟨b,0,none⟩) rows.length c:=by
 obtain ⟨_,vs,Φ,h4,h5,_⟩:=h
 rcases h4.2 with⟨e,e2⟩|⟨g,cap,cur,e,_⟩
 ·omega
 ·have:=hg g (by rw [e];rfl)
  exact ⟨cap,by rw [e,h5,this]⟩
def AO.n?:AO→Option Nat
 | .row _ n _=>some n
 | .rwn _ n _=>some n
 | .rof _ n _ _ _ _=>some n
 | .rwo _ n _ _ _ _=>some n
 | _=>none
theorem ObAt.base {G:Gh} {w:World} {k n:Nat} {ob:AO} {rows:List (List AV)} (h:ObAt G w k ob) (hr:ob.rows?=some rows) (hn:ob.n?=some n) (hp:0<rows.length):G.n k=n∧∃ c,G.h k=.slice (some ⟨G.b k,0,none⟩) rows.length c:=by
 cases ob with
 | row T n rs=>cases hr;cases hn;exact ⟨h.1,h.2.2.base h.2.1 hp⟩
 | rwn T n rs=>cases hr;cases hn;exact ⟨h.1,h.2.2.base h.2.1 hp⟩
 | rof T n rs hi hj y=>cases hr;cases hn;exact ⟨h.1,h.2.2.base h.2.1 hp⟩
 | rwo T n rs hi hj y=>cases hr;cases hn;exact ⟨h.1,h.2.2.base h.2.1 hp⟩
 | _=>cases hr
theorem WV.indexS {T e n k:Nat} {ob:AO} {x y:Operand} {rows:List (List AV)} {q:IntKind} {z:Int} (ho:o.op=.indexAddr T x y) (hT:P.underlying T=some (.slice e)) (hn:sizeB P e=some n)
  (hx:σ.ev x=some (.sl k)) (hy:σ.ev y=some (.sc (.int q z))) (hk:look k σ.M=some ob) (hr:ob.rows?=some rows) (hn2:ob.n?=some n) (h0:0≤z) (h1:z < rows.length):WV P C o σ (.pt k z.toNat 0) :=
 WV.val (fun G a w ok=>.pt _ _ _ (ok.ob k _ hk).1) fun G a w ok=>by
  have e1:=(ok.evr hx).2.sl_of.1
  obtain ⟨hn3,c,e2⟩:=(ok.ob k _ hk).2.2.base hr hn2 zqo
  rw [e2] at e1
  obtain ⟨q1,q2,q3⟩:=add_ptr (j:=z.toNat*n) (⟨G.b k,0,none⟩:Addr) rfl rfl
  refine ⟨_,by unfold execOp;simp [ho,e1,ok.evs hy,run_index hT hn _ rows.length c q z h0 h1],.pt k z.toNat 0 _ q1 ?_ q3⟩
  rw [q2,hn3];simp
theorem RP.bd {F:View} {av:AV} {v:Value} (r:RP F av v)(nk:Nat):Bd nk av:=by
 induction r with
 | sc v=>exact .sc v
 | ls n rows A cap ad u _ _ _ _ _ _=>exact .ls n rows
 | pr cells p u _ _ _=>exact .pr cells
 | ag l cs h1 _ ih =>
  refine .ag l fun i x hx=>?_
  have hlt:i<cs.size:=by rw [h1];exact (List.getElem?_eq_some_iff.1 hx).1
  exact ih i x cs[i] hx (Array.getElem?_eq_getElem hlt)
 | tu l cs h1 _ ih =>
  refine .tu l fun i x hx=>?_
  have hlt:i<cs.size:=by rw [h1];exact (List.getElem?_eq_some_iff.1 hx).1
  exact ih i x cs[i] hx (Array.getElem?_eq_getElem hlt)
 | fn f l cs h1 _ ih =>
  refine .fn f l fun i x hx=>?_
  have hlt:i<cs.size:=by rw [h1];exact (List.getElem?_eq_some_iff.1 hx).1
  exact ih i x cs[i] hx (Array.getElem?_eq_getElem hlt)
def AO.from_:AO→Nat→Nat→Option (List AV)
 | .box _ cells,0,j=>some (cells.drop j)
 | .box _ _,_+1,_=>none
 | .row _ _ rows,i,j=>(rows[i]?).map (·.drop j)
 | .rwn _ _ rows,i,j=>(rows[i]?).map (·.drop j)
 | .rof _ _ _ _ _ _,_,_=>none
 | .rwo _ _ _ _ _ _,_,_=>none
 | .bld _ _ _,_,_=>none
 | .opq _,_,_=>none
theorem addr_eq {p:Addr} {b f:Nat} (h1:p.block=b)(h2:p.off=f)(h3:p.spot=none):p =⟨b,f,none⟩:=by
 cases p;simp_all
theorem add_flat(b f j:Nat):(⟨b,f,none⟩:Addr).add j =⟨b,f+j,none⟩:=by
 unfold Addr.add
 by_cases e:j=0<;>simp [e]
theorem RowIs.cell_at {w:World} {T n:Nat} {rows:List (List AV)} {v:Value} {φ:Nat→Prop} {b:Nat} {X:Nat→Nat→(Nat→Prop)→AV→Value→Prop} (h:RowIs w T n rows v φ X) (hg:∀ g,v.ownBlock=some g→g=b) {i j:Nat} {r:List AV} {av:AV} (hr:rows[i]?=some r) (hm:r[j]?=some av) :
  ∃ u,w.cell? ⟨b,i*n+j,none⟩=some u∧∃ ψ,X i j ψ av u:=by
 have hb:=h.base hg (by have:=(List.getElem?_eq_some_iff.1 hr).1;omega)
 obtain ⟨hrl,vs,Φ,h4,h5,h7,_,_,_,h8,h6⟩:=h
 have hi:i<rows.length:=(List.getElem?_eq_some_iff.1 hr).1
 have hv:vs[i]?=some vs[i]:=List.getElem?_eq_getElem (by omega)
 have e1:=h8 i r _ hr hv
 have hj:j<vs[i].length:=by rw [e1];exact (List.getElem?_eq_some_iff.1 hm).1
 have hvl:∀ r∈vs,r.length=n:=by
  intro r' hr'
  obtain ⟨q,hq,rfl⟩:=List.getElem_of_mem hr'
  have:=h8 q rows[q] vs[q] (List.getElem?_eq_getElem (by omega)) (List.getElem?_eq_getElem hq)
  rw [this];exact hrl _ (List.getElem_mem _)
 obtain ⟨A,c,hA,hrd,hat,_⟩:=rd_of_own h4 hvl rfl rfl
 obtain ⟨c2,hb2⟩:=hb
 rw [hb2] at hA
 injection hA with hA _ _
 subst hA
 obtain ⟨ad,had,_,hc⟩:=Rd.at_ (k:=i) hrd zqo
 injection had with had
 subst had
 refine ⟨_,?_,Φ i j,h6 i r _ j av _ hr hv hm (List.getElem?_eq_getElem hj)⟩
 have:=hc j _ (List.getElem?_eq_getElem hj)
 rw [add_flat,Nat.zero_add] at this
 exact this
theorem Ok.cell {G:Gh} {a:Act} {w:World} (ok:Ok C σ G a w) {k i j m:Nat} {ob:AO} {l:List AV} {av:AV} {p:Addr} (hk:look k σ.M=some ob)(hf:ob.from_ i j=some l)(hm:l[m]?=some av)
  (h1:p.block=G.b k)(h2:p.off=i*G.n k+j)(h3:p.spot=none)(ho:av.own=false):∃ u,w.cell? (p.add m)=some u∧R G av u∧Bd σ.nk av:=by
 obtain rfl:=addr_eq h1 h2 h3
 have h:=ok.ob k ob hk
 cases ob with
 | box T cells =>
  cases i with
  | succ i=>simp [AO.from_]at hf
  | zero =>
   simp only [AO.from_,Option.some.injEq]at hf
   subst hf
   rw [List.getElem?_drop]at hm
   obtain⟨_,cs,Φ,hb,hs,_,_,hc⟩:=h.2.2
   have hlt:j+m<cs.size:=by rw [hs];exact (List.getElem?_eq_some_iff.1 hm).1
   refine⟨cs[j+m],?_,(hc _ _ _ hm (Array.getElem?_eq_getElem hlt)).r ho,h.2.1 _ _ hm⟩
   rw [add_flat,Nat.zero_mul,Nat.zero_add,hb.cell]
   exact Array.getElem?_eq_getElem hlt
 | row T n rows =>
  simp only [AO.from_]at hf
  cases hr:rows[i]? with
  | none=>simp [hr]at hf
  | some r =>
   simp [hr]at hf
   subst hf
   rw [List.getElem?_drop]at hm
   obtain⟨hn,hg,hR⟩:=h.2.2
   obtain⟨u,hu,Ψ,hX⟩:=hR.cell_at hg hr hm
   have hp:RP G.F av u:=hX
   refine⟨u,?_,.pu _ _ hp,hp.bd _⟩
   rw [add_flat,hn,Nat.add_assoc];exact hu
 | rwn T n rows =>
  simp only [AO.from_]at hf
  cases hr:rows[i]? with
  | none=>simp [hr]at hf
  | some r =>
   simp [hr]at hf
   subst hf
   rw [List.getElem?_drop]at hm
   obtain⟨hn,hg,hR⟩:=h.2.2
   obtain⟨u,hu,Ψ,hX⟩:=hR.cell_at hg hr hm
   have hp:=OW.p hX ho
   refine⟨u,?_,.pu _ _ hp,hp.bd _⟩
   rw [add_flat,hn,Nat.add_assoc];exact hu
 | rof T n rows hi hj y=>cases hf
 | rwo T n rows hi hj y=>cases hf
 | bld T e l=>cases hf
 | opq q=>cases hf
theorem run_load1 {T:TypeId} {p:Addr} {u:Value} {w:World} (hT:aggB P T=some false)(h:w.cell? p=some u):(Instr.loadAt T (.pointer (some p))).run P w=.ok u w:=by
 simp [Instr.loadAt,Instr.sureAddr,loadVar,run_aggB hT,h]
theorem run_loadN {T n:Nat} {p:Addr} {cs:List Value} {w:World} (hT:aggB P T=some true)(hn:sizeB P T=some n)(hl:cs.length=n)(h:∀ j v,cs[j]?=some v→w.cell? (p.add j)=some v):(Instr.loadAt T (.pointer (some p))).run P w=.ok (.agg cs.toArray) w:=by
 have:=run_loadCells_list (P:=P) w p cs h
 rw [hl] at this
 simp [Instr.loadAt,Instr.sureAddr,loadVar,run_aggB hT,run_sizeB hn,this]
theorem add_zero'(p:Addr):p.add 0=p:=by simp [Addr.add]
theorem WV.load1 {T:TypeId} {x:Operand} {k i j:Nat} {ob:AO} {l:List AV} {av:AV} (ho:o.op=.load T x)(hT:aggB P T=some false)
  (hx:σ.ev x=some (.pt k i j))(hk:look k σ.M=some ob)(hf:ob.from_ i j=some l)(hm:l[0]?=some av)(hw:av.own=false):WV P C o σ av :=
 WV.val (fun G a w ok=>by
  obtain⟨p,e,h1,h2,h3⟩:=(ok.evr hx).2.pt_of
  obtain⟨u,_,_,hb⟩:=ok.cell hk hf hm h1 h2 h3 hw
  exact hb) fun G a w ok=>by
  obtain⟨p,e,h1,h2,h3⟩:=(ok.evr hx).2.pt_of
  obtain⟨u,hu,hr,_⟩:=ok.cell hk hf hm h1 h2 h3 hw
  rw [add_zero'] at hu
  exact⟨u,by unfold execOp;simp [ho,e,run_load1 hT hu],hr⟩
theorem WV.load1R {T:TypeId} {x:Operand} {cells:List AV} {av:AV} (ho:o.op=.load T x)(hT:aggB P T=some false)
  (hx:σ.ev x=some (.pr cells))(hm:cells[0]?=some av):WV P C o σ av :=
 WV.val (fun G a w ok=>by
  obtain⟨p,u,e,h1,h2⟩:=(ok.evr hx).2.pr_of.pr_of
  exact (h2 0 av hm).bd _) fun G a w ok=>by
  obtain⟨p,u,e,h1,h2⟩:=(ok.evr hx).2.pr_of.pr_of
  have hu:=ok.fw _ _ (h1 0 av hm).1
  rw [add_zero'] at hu
  exact⟨u 0,by unfold execOp;simp [ho,e,run_load1 hT hu],.pu _ _ (h2 0 av hm)⟩
theorem list_ofT {α:Type} (Q:Nat→α→Prop):∀ (n:Nat),(∀ j,j<n→∃ u,Q j u)→∃ l:List α,l.length=n∧∀ j u,l[j]?=some u→Q j u:=by
 intro n
 induction n with
 | zero=>intro _;exact⟨[],rfl,fun j u h=>by simp at h⟩
 | succ n ih =>
  intro h
  obtain⟨l,hl,hq⟩:=ih fun j hj=>h j zqo
  obtain⟨u,hu⟩:=h n zqo
  refine⟨l++[u],by simp [hl],fun j v hv=>?_⟩
  by_cases e:j<n
  ·rw [List.getElem?_append_left (by omega)]at hv;exact hq j v hv
  ·rw [List.getElem?_append_right (by omega)]at hv
   have hj:j-l.length<[u].length:=(List.getElem?_eq_some_iff.1 hv).1
   have:j=n:=by simp at hj;omega
   subst this
   simp [hl]at hv
   rw [← hv];exact hu
theorem WV.loadN {T n:Nat} {x:Operand} {k i j:Nat} {ob:AO} {l l':List AV} (ho:o.op=.load T x)(hT:aggB P T=some true)(hn:sizeB P T=some n)
  (hx:σ.ev x=some (.pt k i j))(hk:look k σ.M=some ob)(hf:ob.from_ i j=some l)(hl:l.take n=l')(hlen:l'.length=n)(hw:l'.all (fun av=>!av.own)=true):WV P C o σ (.ag l') :=
 have hw':∀ (m:Nat) av,l'[m]?=some av→av.own=false:=fun m av h=>by simpa using List.all_eq_true.1 hw av (List.mem_of_getElem? h)
 have hle:n≤l.length:=by rw [← hl,List.length_take] at hlen;omega
 have hat:∀ m av,l'[m]?=some av→l[m]?=some av:=fun m av h=>by
  have hlt:m<n:=by rw [← hlen];exact (List.getElem?_eq_some_iff.1 h).1
  rw [← hl,List.getElem?_take_of_lt hlt] at h;exact h
 WV.val (fun G a w ok=>by
  obtain⟨p,e,h1,h2,h3⟩:=(ok.evr hx).2.pt_of
  refine .ag _ fun m av hm=>?_
  obtain⟨u,_,_,hb⟩:=ok.cell hk hf (hat m av hm) h1 h2 h3 (hw' m av hm)
  exact hb) fun G a w ok=>by
  obtain⟨p,e,h1,h2,h3⟩:=(ok.evr hx).2.pt_of
  obtain⟨cs,hcl,hcq⟩:=list_ofT (fun m u=>w.cell? (p.add m)=some u∧∀ av,l'[m]?=some av→R G av u) n fun m hm=>by
   have hg:l'[m]?=some l'[m]:=List.getElem?_eq_getElem (by omega)
   obtain⟨u,hu,hr,_⟩:=ok.cell hk hf (hat m _ hg) h1 h2 h3 (hw' m _ hg)
   exact⟨u,hu,fun av h=>by rw [hg] at h;cases h;exact hr⟩
  refine⟨.agg cs.toArray,by unfold execOp;simp [ho,e,run_loadN hT hn hcl fun j v h=>(hcq j v h).1],.ag _ _ (by simp [hcl,hlen]) fun m av u hm hu=>(hcq m u (by simpa using hu)).2 av hm⟩
theorem WV.loadNR {T n:Nat} {x:Operand} {l l':List AV} (ho:o.op=.load T x)(hT:aggB P T=some true)(hn:sizeB P T=some n)
  (hx:σ.ev x=some (.pr l))(hl:l.take n=l')(hlen:l'.length=n):WV P C o σ (.ag l') :=
 have hat:∀ m av,l'[m]?=some av→l[m]?=some av:=fun m av h=>by
  have hlt:m<n:=by rw [← hlen];exact (List.getElem?_eq_some_iff.1 h).1
  rw [← hl,List.getElem?_take_of_lt hlt] at h;exact h
 WV.val (fun G a w ok=>by
  obtain⟨p,u,e,h1,h2⟩:=(ok.evr hx).2.pr_of.pr_of
  exact .ag _ fun m av hm=>(h2 m av (hat m av hm)).bd _) fun G a w ok=>by
  obtain⟨p,u,e,h1,h2⟩:=(ok.evr hx).2.pr_of.pr_of
  have hh:∀ (j:Nat) v,((List.range n).map u)[j]?=some v→w.cell? (p.add j)=some v:=fun j v h=>by
   have hj:j<n:=by simpa using(List.getElem?_eq_some_iff.1 h).1
   simp [hj] at h
   have hg:l'[j]?=some l'[j]:=List.getElem?_eq_getElem (by omega)
   rw [← h];exact ok.fw _ _ (h1 j _ (hat j _ hg)).1
  refine⟨.agg ((List.range n).map u).toArray,by unfold execOp;simp only [ho,e];rw [Sem.run_bind,run_loadN hT hn (by simp) hh];rfl,.ag _ _ (by simp [hlen]) fun m av v hm hv=>?_⟩
  have hj:m<n:=by rw [← hlen];exact (List.getElem?_eq_some_iff.1 hm).1
  simp [hj] at hv
  rw [← hv];exact .pu _ _ (h2 m av (hat m av hm))
end
end
section
open Go.RowKit
def St.new(σ:St)(ob:AO):St:={ σ with M:=(σ.nk,ob)::σ.M,nk:=σ.nk+1 }
def St.upd(σ:St)(k:Nat)(ob:AO):St:={ σ with M:=(k,ob)::σ.M }
def AV.cells:AV→List AV
 | .ag l=>l
 | av=>[av]
def AV.cellB:AV→Bool
 | .sc v=>v.oneCell'
 | .tu _=>false
 | .ow _ _ _=>false
 | _=>true
def AV.oneB:AV→Bool
 | .sc v=>v.oneCell'
 | .tu _=>false
 | .ag _=>false
 | .ow _ _ _=>false
 | _=>true
section
variable {P:Program} {C:Cx} {σ σ':St} {G G':Gh} {a:Act} {w w':World} {o:Oper} {d:Tmp}
theorem AO.bd_mono {nk nk':Nat} (h:nk≤nk') {ob:AO} (b:ob.bd nk):ob.bd nk':=by
 cases ob with
 | box T cells=>exact fun i av x=>(b i av x).mono h
 | row T n rows=>trivial
 | rwn T n rows=>trivial
 | rof T n rows hi hj y=>exact Bd.mono h b
 | rwo T n rows hi hj y=>exact Bd.mono h b
 | bld T e l=>trivial
 | opq q=>trivial
theorem Ok.add (ok:Ok C σ G a w) {ob:AO} (h:ObAt G w σ.nk ob) (hbd:ob.bd (σ.nk+1))
  (hown:∀ x,G.fp σ.nk x→C.may x∧x<w.heap.size∧(∀ k o,look k σ.M=some o→¬ G.fp k x)∧∀ p u,G.F p=some u→p.block≠x):Ok C (σ.new ob) G a w:=by
 have hl:∀ k o,look k (σ.new ob).M=some o→(k=σ.nk∧o=ob)∨(k≠σ.nk∧look k σ.M=some o):=fun k o hx=>by
  by_cases e:k=σ.nk
  ·subst e
   rw [show look σ.nk (σ.new ob).M=some ob from look_set_same] at hx
   cases hx
   exact .inl ⟨rfl,rfl⟩
  ·rw [show look k (σ.new ob).M=look k σ.M from look_set_other e] at hx
   exact .inr ⟨e,hx⟩
 refine ⟨ok.sz,⟨ok.df.1,Nat.le_succ_of_le ok.df.2.1,ok.df.2.2⟩,fun i av x=>⟨(ok.tm i av x).1,(ok.tm i av x).2.1.mono (Nat.le_succ _),(ok.tm i av x).2.2⟩,ok.bel,ok.fw,ok.f0,ok.f1,?_,?_,?_,?_⟩
 ·intro k o x
  rcases hl k o x with⟨rfl,rfl⟩|⟨e,y⟩
  ·exact ⟨Nat.lt_succ_self _,hbd,h⟩
  ·exact ⟨Nat.lt_succ_of_lt (ok.ob k o y).1,AO.bd_mono (Nat.le_succ _) (ok.ob k o y).2.1,(ok.ob k o y).2.2⟩
 ·intro k o x h1 h2
  rcases hl k o h1 with⟨rfl,rfl⟩|⟨e,y⟩
  ·exact ⟨(hown x h2).1,(hown x h2).2.1⟩
  ·exact ok.my k o x y h2
 ·intro k o k' o' x h1 h2 h3 h4
  rcases hl k o h1 with⟨rfl,rfl⟩|⟨e,y⟩
  ·rcases hl k' o' h2 with⟨rfl,rfl⟩|⟨e',y'⟩
   ·rfl
   ·exact absurd h4 ((hown x h3).2.2.1 k' o' y')
  ·rcases hl k' o' h2 with⟨rfl,rfl⟩|⟨e',y'⟩
   ·exact absurd h3 ((hown x h4).2.2.1 k o y)
   ·exact ok.dj k o k' o' x y y' h3 h4
 ·intro k o x p u h1 h2 h3
  rcases hl k o h1 with⟨rfl,rfl⟩|⟨e,y⟩
  ·exact (hown x h2).2.2.2 p u h3
  ·exact ok.dF k o x p u y h2 h3
def Gh.with(G:Gh)(k:Nat)(b n:Nat)(h:Value)(φ:Nat→Prop):Gh :=
 ⟨G.F,fun q=>if q=k then b else G.b q,fun q=>if q=k then n else G.n q,fun q=>if q=k then h else G.h q,fun q=>if q=k then φ else G.fp q⟩
theorem Gh.with_le (G:Gh)(k:Nat)(b n:Nat)(h:Value)(φ:Nat→Prop):G.le (G.with k b n h φ) k:=⟨fun _ _ h=>h,fun q hq=>if_neg (by omega),fun q hq=>if_neg (by omega),fun q hq=>if_neg (by omega)⟩
theorem Gh.with_fp (G:Gh)(k:Nat)(b n:Nat)(h:Value)(φ:Nat→Prop):∀ q,q<k→(G.with k b n h φ).fp q=G.fp q:=fun q hq=>if_neg (by omega)
theorem Ok.newBox (ok:Ok C σ G a w) {cells:List AV} {cs:Array Value} (T:TypeId) (hs:cs.size=cells.length) (hc:∀ (i:Nat) av u,cells[i]?=some av→cs[i]?=some u→R G av u) (hb:∀ (i:Nat) av,cells[i]?=some av→Bd σ.nk av) :
  ∃ G',G.le G' σ.nk∧G'.b σ.nk=w.heap.size∧Ok C (σ.new (.box T cells)) G' a (w.alloc (.cells cs T)):=by
 have hle:=G.with_le σ.nk w.heap.size 0 undef (fun x=>x=w.heap.size)
 have hfp:=G.with_fp σ.nk w.heap.size 0 undef (fun x=>x=w.heap.size)
 have hbl:∀ x,x<w.heap.size→(w.alloc (.cells cs T)).heap[x]?=w.heap[x]?:=fun x hx=>Below.heap_alloc w _ x hx
 have ok1:Ok C σ (G.with σ.nk w.heap.size 0 undef (fun x=>x=w.heap.size)) a (w.alloc (.cells cs T)) :=
  ok.world (S:=fun _=>False) hle hfp (Kept.below ((Below.refl _ _).alloc (Nat.le_refl _) _)) (fun _ h=>h.elim) (fun k o x h1 h2=>hbl x (ok.my k o x h1 h2).2)
   (fun p u h=>(World.cell?_of_block (hbl _ (cell_block (ok.fw p u h)))).trans (ok.fw p u h)) (fun _ _ h=>.inl h)
 have e1:(G.with σ.nk w.heap.size 0 undef (fun x=>x=w.heap.size)).b σ.nk=w.heap.size:=if_pos rfl
 have e2:(G.with σ.nk w.heap.size 0 undef (fun x=>x=w.heap.size)).fp σ.nk=fun x=>x=w.heap.size:=if_pos rfl
 refine ⟨_,hle,e1,ok1.add ⟨by rw [e1,e2],cs,fun _ _=>False,?_,hs,fun _ _ h=>h.elim,fun _ _ _ h=>h.elim,fun i av u x y=>.inl ((hc i av u x y).mono hle (hb i av x))⟩ (fun i av x=>(hb i av x).mono (Nat.le_succ _)) ?_⟩
 ·rw [e1];exact Blk.new w T cs
 ·intro x hx
  rw [e2] at hx
  obtain rfl:x=w.heap.size:=hx
  refine ⟨.inl ok.bel.size,by simp,fun k o h1 h2=>?_,fun p u h=>?_⟩
  ·rw [hfp k (ok.ob k o h1).1] at h2
   have:=(ok.my k o _ h1 h2).2
   omega
  ·have:=cell_block (ok.fw p u h)
   omega
theorem cells_of {av:AV} {v:Value} (r:R G av v)(hB:av.cellB=true):v.cells.size=av.cells.length∧∀ (i:Nat)x u,av.cells[i]?=some x→v.cells[i]?=some u→R G x u:=by
 have one:∀ (av:AV)(v:Value),R G av v→v.oneCell'=true→v.cells.size=[av].length∧∀ (i:Nat)x u,[av][i]?=some x→v.cells[i]?=some u→R G x u:=fun av v r h=>by
  have hv:v.cells=#[v]:=by cases v<;>first|rfl|cases h
  rw [hv]
  refine⟨rfl,fun i x u a b=>?_⟩
  cases i with
  | zero=>cases a;cases b;exact r
  | succ i=>simp at a
 cases av with
 | sc x =>
  have:=r.sc_eq
  subst this
  exact one _ _ r hB
 | ag l =>
  obtain⟨cs,rfl,h1,h2⟩:=r.ag_of
  exact⟨h1,h2⟩
 | tu l=>cases hB
 | ls n rows=>obtain⟨A,cap,ad,u,rfl,_⟩:=r.pu_of.ls_of;exact one _ _ r rfl
 | pr cells=>obtain⟨p,u,rfl,_⟩:=r.pr_of.pr_of;exact one _ _ r rfl
 | pt k i j=>obtain⟨p,rfl,_⟩:=r.pt_of;exact one _ _ r rfl
 | sl k=>exact one _ _ r r.sl_of.2
 | ow T n rows=>cases hB
 | fn f l=>obtain⟨cs,rfl,_⟩:=r.fn_of;exact one _ _ r rfl
theorem cells_bd {nk:Nat} {av:AV} (b:Bd nk av):∀ (i:Nat)x,av.cells[i]?=some x→Bd nk x:=by
 have one:∀ av:AV,Bd nk av→∀ (i:Nat)x,[av][i]?=some x→Bd nk x:=fun av b i x h=>by
  cases i with
  | zero=>cases h;exact b
  | succ i=>simp at h
 cases av with
 | ag l=>cases b with|ag _ h=>exact h
 | _=>exact one _ b
theorem WO.box {T:TypeId} {x:Operand} {av:AV} {l:List AV} {n:Nat} (ho:o.op=.box T x) (hds:o.dst=some d) (hd:Nat.blt d C.N=true) (hx:σ.ev x=some av) (hB:av.cellB=true) (hl:av.cells=l) (hn:σ.nk=n):WO P C o σ ((σ.new (.box T l)).put d (.pt n 0 0)):=by
 intro G a w ok N Q' hN
 obtain ⟨hb,hr⟩:=ok.evr hx
 obtain ⟨h1,h2⟩:=cells_of hr hB
 obtain ⟨G',hle,hbb,ok'⟩:=ok.newBox T h1 h2 (cells_bd hb)
 unfold Oper.wp execOp
 simp only [ho,Instr.box,newVar,newRow,Sem.run_bind,Sem.run_pure,run_newObj,Result.andThen_ok]
 show N (a.put o.dst _) _
 rw [hds]
 subst hl hn
 exact hN G' _ _ (ok'.set (d:=some d) (.pt σ.nk 0 0 _ hbb.symm (by simp) rfl) (.pt _ _ _ (Nat.lt_succ_self _)) fun x hx=>by cases hx;exact of_blt hd)
theorem WO.alloc {T:TypeId} {z:Value} {l:List AV} {n:Nat} (ho:o.op=.alloc T) (hz:(P.info? T).bind (·.zero)=some z) (hds:o.dst=some d) (hd:Nat.blt d C.N=true) (hl:z.cells.toList.map .sc=l) (hn:σ.nk=n):WO P C o σ ((σ.new (.box T l)).put d (.pt n 0 0)):=by
 intro G a w ok N Q' hN
 have hc:∀ (i:Nat) av u,l[i]?=some av→z.cells[i]?=some u→R G av u:=fun i av u x y=>by
  rw [← hl,List.getElem?_map] at x
  rw [show z.cells.toList[i]?=z.cells[i]? by simp,y] at x
  cases x
  exact .pu _ _ (.sc _)
 have hb:∀ (i:Nat) av,l[i]?=some av→Bd σ.nk av:=fun i av x=>by
  rw [← hl,List.getElem?_map] at x
  cases hq:z.cells.toList[i]? with
  | none=>simp [hq] at x
  | some u=>simp [hq] at x;rw [← x];exact .sc _
 obtain ⟨G',hle,hbb,ok'⟩:=ok.newBox (cells:=l) (cs:=z.cells) T (by rw [← hl];simp) hc hb
 cases hi:P.info? T with
 | none=>simp [hi] at hz
 | some i =>
  simp [hi] at hz
  unfold Oper.wp execOp
  simp only [ho,Instr.alloc,zeroValue,typeInfo,newVar,newRow,Sem.run_bind,Sem.run_pure,run_newObj,Result.andThen_ok,run_program,hi,hz]
  show N (a.put o.dst _) _
  rw [hds]
  subst hn
  exact hN G' _ _ (ok'.set (d:=some d) (.pt σ.nk 0 0 _ hbb.symm (by simp) rfl) (.pt _ _ _ (Nat.lt_succ_self _)) fun x hx=>by cases hx;exact of_blt hd)
end
end
section
open Go.RowKit
def putL {α:Type}:Nat→List α→List α→List α
 | 0,[],cs=>cs
 | 0,x::l,_::cs=>x::putL 0 l cs
 | j+1,l,c::cs=>c::putL j l cs
 | _,_,[]=>[]
theorem putL_eq {α:Type}:∀ (j:Nat)(l cs:List α),j+l.length≤cs.length→putL j l cs=cs.take j++l++cs.drop (j+l.length)
 | 0,[],cs,_=>by simp [putL]
 | 0,x::l,[],h=>by simp at h
 | 0,x::l,c::cs,h=>by
  have:=putL_eq 0 l cs (by simp at h ⊢;omega)
  simp [putL,this]
 | j+1,l,[],h=>by simp at h
 | j+1,l,c::cs,h=>by
  have:=putL_eq j l cs (by simp at h;omega)
  simp [putL,this,Nat.add_right_comm]
theorem putL_len {α:Type} {j:Nat} {l cs:List α} (h:j+l.length≤cs.length):(putL j l cs).length=cs.length:=by
 rw [putL_eq j l cs h];simp;omega
theorem putL_at {α:Type} {j:Nat} {l cs:List α} (h:j+l.length≤cs.length)(i:Nat):(putL j l cs)[i]?=if j≤i∧i<j+l.length then l[i-j]? else cs[i]?:=by
 rw [putL_eq j l cs h]
 by_cases h1:i<j
 ·rw [if_neg (by omega),List.append_assoc,List.getElem?_append_left (by simp;omega),List.getElem?_take_of_lt h1]
 ·by_cases h2:i<j+l.length
  ·rw [if_pos (by omega),List.getElem?_append_left (by simp;omega),List.getElem?_append_right (by simp;omega)]
   simp [Nat.min_eq_left (show j≤cs.length by omega)]
  ·rw [if_neg (by omega),List.getElem?_append_right (by simp;omega),List.getElem?_drop]
   congr 1;simp;omega
theorem putL_rel {α β:Type} (Q:α→β→Prop) {j:Nat} {l cs:List α} {m ds:List β} (h:j+l.length≤cs.length)(hm:m.length=l.length)(hd:ds.length=cs.length)
  (h1:∀ (i:Nat)x y,l[i]?=some x→m[i]?=some y→Q x y)(h2:∀ (i:Nat)x y,cs[i]?=some x→ds[i]?=some y→Q x y):∀ (i:Nat)x y,(putL j l cs)[i]?=some x→(putL j m ds)[i]?=some y→Q x y:=by
 intro i x y hx hy
 rw [putL_at h]at hx
 rw [putL_at (by omega)]at hy
 rw [hm]at hy
 by_cases e:j≤i∧i<j+l.length
 ·rw [if_pos e]at hx hy;exact h1 _ _ _ hx hy
 ·rw [if_neg e]at hx hy;exact h2 _ _ _ hx hy
theorem flat_put {n:Nat}:∀ (vs:List (List Value)),(∀ r∈vs,r.length=n)→∀ (i j:Nat) (r l:List Value),vs[i]?=some r→j+l.length≤n→(vs.set i (putL j l r)).flatten=putL (i*n+j) l vs.flatten:=by
 intro vs
 induction vs with
 | nil=>intro _ i j r l h;simp at h
 | cons v t ih =>
  intro hn i j r l h hj
  have hv:v.length=n:=hn v (by simp)
  cases i with
  | zero =>
   obtain rfl:v=r:=by simpa using h
   have hf:j+l.length≤(v++t.flatten).length:=by simp;omega
   rw [List.set_cons_zero,List.flatten_cons,List.flatten_cons,Nat.zero_mul,Nat.zero_add,putL_eq j l v (by omega),putL_eq j l _ hf]
   simp only [List.append_assoc]
   rw [List.take_append_of_le_length (by omega),List.drop_append_of_le_length (by omega)]
  | succ i =>
   have ht:∀ r∈t,r.length=n:=fun r hr=>hn r (by simp [hr])
   have h':t[i]?=some r:=by simpa using h
   have hi:i<t.length:=(List.getElem?_eq_some_iff.1 h').1
   have hfl:t.flatten.length=t.length*n:=flatten_len ht
   have hle:i*n+n≤t.length*n:=by
    have:(i+1)*n≤t.length*n:=Nat.mul_le_mul_right n hi
    rw [Nat.succ_mul] at this;exact this
   rw [List.set_cons_succ,List.flatten_cons,List.flatten_cons,ih ht i j r l h' hj,Nat.succ_mul,
    putL_eq _ l t.flatten (by rw [hfl];omega),putL_eq _ l (v++t.flatten) (by simp only [List.length_append];rw [hfl];omega)]
   have e1:List.take (i*n+n+j) v=v:=List.take_of_length_le zqo
   have e2:List.drop (i*n+n+j+l.length) v=[]:=List.drop_eq_nil_of_le zqo
   rw [List.take_append,List.drop_append,e1,e2]
   rw [show i*n+n+j-v.length=i*n+j by omega,show i*n+n+j+l.length-v.length=i*n+j+l.length by omega]
   simp
def AV.pu00:AV→Bool
 | .sc _=>true
 | .ls _ _=>true
 | .pr _=>true
 | _=>false
def AV.pu0:AV→Bool
 | .fn _ l=>l.all AV.pu00
 | av=>av.pu00
theorem pu00_bd {av:AV} (h:av.pu00=true)(nk:Nat):Bd nk av:=by
 cases av<;>first|exact .sc _|exact .ls _ _|exact .pr _|cases h
theorem pu0_own {av:AV} (h:av.pu0=true):av.own=false:=by cases av<;>first|rfl|cases h
theorem pu0_bd {av:AV} (h:av.pu0=true)(nk:Nat):Bd nk av:=by
 cases av with
 | fn f l=>exact .fn f l fun i x hx=>pu00_bd (List.all_eq_true.1 h x (List.mem_of_getElem? hx)) nk
 | sc v=>exact .sc v
 | ls n rows=>exact .ls n rows
 | pr cells=>exact .pr cells
 | _=>cases h
def AO.put:AO→Nat→Nat→List AV→Option AO
 | .box T cells,0,j,l=>bif Nat.ble (j+l.length) cells.length then some (.box T (putL j l cells)) else none
 | .box _ _,_+1,_,_=>none
 | .row T n rows,i,j,l =>
  match rows[i]? with
  | some r=>if j+l.length≤r.length∧l.all AV.pu0=true then some (.row T n (rows.set i (putL j l r))) else none
  | none=>none
 | .rwn T n rows,i,j,l =>
  match rows[i]? with
  | some r=>if j+l.length≤r.length∧l.all AV.pu0=true then some (.rwn T n (rows.set i (putL j l r))) else none
  | none=>none
 | .rof _ _ _ _ _ _,_,_,_=>none
 | .rwo _ _ _ _ _ _,_,_,_=>none
 | .bld _ _ _,_,_,_=>none
 | .opq _,_,_,_=>none
section
variable {P:Program} {C:Cx} {σ σ':St} {G G':Gh} {a:Act} {w w':World} {o:Oper} {d:Tmp}
theorem kept_setRow (w:World)(g:Nat)(cur:Array Value):Kept (fun x=>x=g) w (w.setRow g cur) :=
 ⟨rfl,rfl,rfl,by simp,fun k _ hk=>setRow_other w g k cur hk⟩
theorem Ok.write (ok:Ok C σ G a w) {k g:Nat} {ob ob':AO} (cur:Array Value) (hk:look k σ.M=some ob) (hg:G.fp k g) (hob:ObAt G (w.setRow g cur) k ob') (hbd:ob'.bd σ.nk) :
  Ok C (σ.upd k ob') G a (w.setRow g cur):=by
 have hl:∀ k' o,look k' (σ.upd k ob').M=some o→(k'=k∧o=ob')∨(k'≠k∧look k' σ.M=some o):=fun k' o hx=>by
  by_cases e:k'=k
  ·subst e
   rw [show look k' (σ.upd k' ob').M=some ob' from look_set_same] at hx
   cases hx
   exact .inl ⟨rfl,rfl⟩
  ·rw [show look k' (σ.upd k ob').M=look k' σ.M from look_set_other e] at hx
   exact .inr ⟨e,hx⟩
 have hne:∀ k' o x,k'≠k→look k' σ.M=some o→G.fp k' x→x≠g:=fun k' o x e h1 h2 h3=>by
  subst h3;exact e (ok.dj k' o k ob x h1 hk h2 hg)
 have hsz:(w.setRow g cur).heap.size=w.heap.size:=by simp
 have some_:∀ k' o,look k' (σ.upd k ob').M=some o→∃ o',look k' σ.M=some o':=fun k' o h=>by
  rcases hl k' o h with⟨rfl,_⟩|⟨_,y⟩
  ·exact ⟨ob,hk⟩
  ·exact ⟨o,y⟩
 refine ⟨ok.sz,ok.df,ok.tm,ok.bel.on (kept_setRow w g cur) (fun x hx=>by subst hx;exact (ok.my k ob x hk hg).1),fun p u h=>?_,ok.f0,ok.f1,?_,?_,?_,?_⟩
 ·rw [World.cell?_of_block (setRow_other w g p.block cur (ok.dF k ob g p u hk hg h))];exact ok.fw p u h
 ·intro k' o x
  rcases hl k' o x with⟨rfl,rfl⟩|⟨e,y⟩
  ·exact ⟨(ok.ob k' ob hk).1,hbd,hob⟩
  ·exact ⟨(ok.ob k' o y).1,(ok.ob k' o y).2.1,(ok.ob k' o y).2.2.keep (Gh.le.refl _ _) (ok.ob k' o y).1 (ok.ob k' o y).2.1 rfl fun x hx=>setRow_other w g x cur (hne k' o x e y hx)⟩
 ·intro k' o x h1 h2
  obtain ⟨o',y⟩:=some_ k' o h1
  rw [hsz]
  exact ok.my k' o' x y h2
 ·intro k1 o1 k2 o2 x h1 h2 h3 h4
  obtain ⟨o1',y1⟩:=some_ k1 o1 h1
  obtain ⟨o2',y2⟩:=some_ k2 o2 h2
  exact ok.dj k1 o1' k2 o2' x y1 y2 h3 h4
 ·intro k1 o1 x p u h1 h2 h3
  obtain ⟨o1',y1⟩:=some_ k1 o1 h1
  exact ok.dF k1 o1' x p u y1 h2 h3
theorem oneB_of {av:AV} {v:Value} (r:R G av v)(h:av.oneB=true):v.oneCell'=true:=by
 cases av with
 | sc x=>rw [r.sc_eq];exact h
 | ag l=>cases h
 | tu l=>cases h
 | ls n rows=>obtain⟨A,cap,ad,u,rfl,_⟩:=r.pu_of.ls_of;rfl
 | ow T n rows=>cases h
 | pr cells=>obtain⟨p,u,rfl,_⟩:=r.pr_of.pr_of;rfl
 | pt k i j=>obtain⟨p,rfl,_⟩:=r.pt_of;rfl
 | sl k=>exact r.sl_of.2
 | fn f l=>obtain⟨cs,rfl,_⟩:=r.fn_of;rfl
theorem take_put {cur:List Value} {K off:Nat} {l:List Value} (h:off+l.length≤K)(hK:K≤cur.length):(putL off l cur).take K=putL off l (cur.take K):=by
 apply List.ext_getElem?
 intro i
 have hl:off+l.length≤(cur.take K).length:=by simp;omega
 rw [putL_at hl]
 by_cases e:i<K
 ·rw [List.getElem?_take_of_lt e,putL_at (by omega)]
  by_cases e2:off≤i∧i<off+l.length
  ·rw [if_pos e2,if_pos e2]
  ·rw [if_neg e2,if_neg e2,List.getElem?_take_of_lt e]
 ·rw [if_neg (by omega),List.getElem?_eq_none (by simp;omega),List.getElem?_eq_none (by simp;omega)]
theorem RowIs.put {T n:Nat} {rows:List (List AV)} {v:Value} {φ:Nat→Prop} {X X':Nat→Nat→(Nat→Prop)→AV→Value→Prop} (h:RowIs w T n rows v φ X) {i j:Nat} {r l:List AV} {us:List Value} (hr':rows[i]?=some r) (hle:j+l.length≤r.length) (hcl:us.length=l.length)
  (hone:∀ u∈us,u.oneCell'=true) {g:Nat} {cur:Array Value} {t:TypeId} (hh:w.heap[g]?=some (.cells cur t (0,0))) (hvg:v.ownBlock=some g)
  (hnew:∀ (s:Nat) x u ψ,l[s]?=some x→us[s]?=some u→X' i (j+s) ψ x u)
  (hold:∀ (q s:Nat) ψ x u,(∀ z,ψ z→z≠g)→¬ (q=i∧j≤s∧s<j+l.length)→X q s ψ x u→X' q s ψ x u) :
  i*n+j+us.length≤cur.size∧RowIs (w.setRow g (putL (i*n+j) us cur.toList).toArray) T n (rows.set i (putL j l r)) v φ X':=by
 obtain ⟨hrl,vs,Φ,h4,h5,h7,hgf,hΦ,hΦd,h8,h6⟩:=h
 have hi:i<rows.length:=(List.getElem?_eq_some_iff.1 hr').1
 have hv':vs[i]?=some vs[i]:=List.getElem?_eq_getElem (by omega)
 have e1:=h8 i r _ hr' hv'
 have hvl:∀ r∈vs,r.length=n:=by
  intro r' hr'
  obtain ⟨q,hq,rfl⟩:=List.getElem_of_mem hr'
  have:=h8 q rows[q] vs[q] (List.getElem?_eq_getElem (by omega)) (List.getElem?_eq_getElem hq)
  rw [this];exact hrl _ (List.getElem_mem _)
 have hrn:r.length=n:=hrl r (List.mem_of_getElem? hr')
 rcases h4.2 with⟨_,e0⟩|⟨g',cap,cur',e,hbase,hh',hnc,hcm,hcs,ht⟩
 ·omega
 ·obtain rfl:g'=g:=by rw [e] at hvg;exact Option.some.inj hvg
  obtain ⟨rfl,rfl⟩:cur'=cur∧T=t:=by rw [hh] at hh';cases hh';exact ⟨rfl,rfl⟩
  have hin:i*n+n≤vs.length*n:=by
   have:(i+1)*n≤vs.length*n:=Nat.mul_le_mul_right n zqo
   rw [Nat.succ_mul] at this;exact this
  have hcap:vs.length*n≤cap*n:=Nat.mul_le_mul_right n hnc
  have hfp:=flat_put vs hvl i j vs[i] us hv' zqo
  have hvl':∀ r∈vs.set i (putL j us vs[i]),r.length=n:=by
   intro q hq
   rcases List.mem_or_eq_of_mem_set hq with hq|rfl
   ·exact hvl q hq
   ·rw [putL_len (by omega)];omega
  refine ⟨by rw [hcs];omega,?_,vs.set i (putL j us vs[i]),fun q s x=>¬ (q=i∧j≤s∧s<j+l.length)∧Φ q s x,⟨?_,.inr ⟨g',cap,_,?_,hbase,setRow_heap w _ _ _ _ _ hh,?_,hcm,?_,?_⟩⟩,by simp [h5],?_,hgf,fun q s x hx=>hΦ q s x hx.2,fun q s q' s' x h1 h2=>hΦd q s q' s' x h1.2 h2.2,?_,?_⟩
  ·intro q hq
   rcases List.mem_or_eq_of_mem_set hq with hq|rfl
   ·exact hrl q hq
   ·rw [putL_len (by omega)];exact hrn
  ·rw [flatten_len hvl']
  ·rw [e];simp
  ·simpa using hnc
  ·rw [List.size_toArray,putL_len (by rw [hcl];simp [hcs];omega)];simpa using hcs
  ·rw [hfp,List.length_set,take_put (by omega) (by simp [hcs];omega),ht]
  ·intro q hq u hu
   rcases List.mem_or_eq_of_mem_set hq with hq|rfl
   ·exact h7 q hq u hu
   ·obtain ⟨s,hs,rfl⟩:=List.getElem_of_mem hu
    have:=putL_at (j:=j) (l:=us) (cs:=vs[i]) zqo s
    rw [List.getElem?_eq_getElem hs] at this
    split at this
    ·exact hone _ (List.mem_of_getElem? this.symm)
    ·exact h7 _ (List.getElem_mem _) _ (List.mem_of_getElem? this.symm)
  ·intro q r1 r2 hq1 hq2
   by_cases eq:q=i
   ·subst eq
    rw [List.getElem?_set_self (by omega)] at hq1 hq2
    cases hq1;cases hq2
    rw [putL_len (by omega),putL_len hle];exact e1
   ·rw [List.getElem?_set_ne (fun h=>eq h.symm)] at hq1 hq2
    exact h8 q r1 r2 hq1 hq2
  ·intro q r1 r2 s x u hq1 hq2 hs hu
   have hne:∀ z,(¬ (q=i∧j≤s∧s<j+l.length)∧Φ q s z)→z≠g':=fun z hz h=>(hΦ q s z hz.2).2 (by rw [e,h];rfl)
   by_cases eq:q=i
   ·subst eq
    rw [List.getElem?_set_self (by omega)] at hq1 hq2
    cases hq1;cases hq2
    rw [putL_at hle] at hs
    rw [putL_at (by omega),hcl] at hu
    by_cases e3:j≤s∧s<j+l.length
    ·rw [if_pos e3] at hs hu
     have:=hnew (s-j) x u (fun z=>¬ (q=q∧j≤s∧s<j+l.length)∧Φ q s z) hs hu
     rwa [show j+(s-j)=s by omega] at this
    ·rw [if_neg e3] at hs hu
     have h61:=h6 q r _ s x u hr' hv' hs hu
     have:(fun z=>¬ (q=q∧j≤s∧s<j+l.length)∧Φ q s z)=Φ q s:=by
      funext z
      exact propext ⟨fun h=>h.2,fun h=>⟨fun h'=>e3 h'.2,h⟩⟩
     show X' q s (fun z=>¬ (q=q∧j≤s∧s<j+l.length)∧Φ q s z) x u
     rw [this]
     exact hold q s (Φ q s) x u (fun z hz=>hne z ⟨fun h'=>e3 h'.2,hz⟩) (fun h'=>e3 h'.2) h61
   ·rw [List.getElem?_set_ne (fun h=>eq h.symm)] at hq1 hq2
    have h61:=h6 q r1 r2 s x u hq1 hq2 hs hu
    have:(fun z=>¬ (q=i∧j≤s∧s<j+l.length)∧Φ q s z)=Φ q s:=by
     funext z
     exact propext ⟨fun h=>h.2,fun h=>⟨fun h'=>eq h'.1,h⟩⟩
    show X' q s (fun z=>¬ (q=i∧j≤s∧s<j+l.length)∧Φ q s z) x u
    rw [this]
    exact hold q s (Φ q s) x u (fun z hz=>hne z ⟨fun h'=>eq h'.1,hz⟩) (fun h'=>eq h'.1) h61
theorem RowIs.blk {T n:Nat} {rows:List (List AV)} {v:Value} {φ:Nat→Prop} {X:Nat→Nat→(Nat→Prop)→AV→Value→Prop} (h:RowIs w T n rows v φ X)(hp:0<rows.length):∃ g cur,v.ownBlock=some g∧φ g∧w.heap[g]?=some (.cells cur T (0,0)):=by
 obtain⟨hrl,vs,Φ,h4,h5,h7,hgf,_⟩:=h
 rcases h4.2 with⟨_,e0⟩|⟨g,cap,cur,e,_,hh,_⟩
 ·omega
 ·have:v.ownBlock=some g:=by rw [e];rfl
  exact⟨g,cur,this,hgf g this,hh⟩
theorem WO.store {T m:Nat} {x y:Operand} {k i j:Nat} {ob ob':AO} {av:AV} {l:List AV} (ho:o.op=.store T x y) (hds:o.dst=none) (hn:sizeB P T=some m) (hx:σ.ev x=some (.pt k i j)) (hk:look k σ.M=some ob) (hy:σ.ev y=some av)
  (hB:av.cellB=true) (hl:av.cells=l) (hm:l.length=m) (h1:l.all AV.oneB=true) (hp:ob.put i j l=some ob'):WO P C o σ (σ.upd k ob'):=by
 intro G a w ok N Q' hN
 obtain ⟨p,ep,p1,p2,p3⟩:=(ok.evr hx).2.pt_of
 obtain ⟨hb,hr⟩:=ok.evr hy
 obtain ⟨c1,c2⟩:=cells_of hr hB
 have cb:=cells_bd hb
 rw [hl] at c1 c2 cb
 obtain ⟨v,hv⟩:∃ v,a.eval y=v:=⟨_,rfl⟩
 rw [hv] at c1 c2
 have hone:∀ u∈v.cells.toList,u.oneCell'=true:=fun u hu=>by
  obtain ⟨q,hq,rfl⟩:=List.getElem_of_mem hu
  have hq':q<l.length:=by simpa [c1] using hq
  exact oneB_of (c2 q l[q] _ (List.getElem?_eq_getElem hq') (by simp at hq;simp [hq])) (List.all_eq_true.1 h1 _ (List.getElem_mem hq'))
 obtain rfl:=addr_eq p1 p2 p3
 have fin:∀ (g:Nat) (cur:Array Value) (t:TypeId),w.heap[g]?=some (.cells cur t (0,0))→g=G.b k→i*G.n k+j+l.length≤cur.size→G.fp k g→ob'.bd σ.nk →
   (ObAt G (w.setRow g (putL (i*G.n k+j) v.cells.toList cur.toList).toArray) k ob')→o.wp P a w N Q':=fun g cur t hg hgb hle hown hbd hob=>by
  have hst:=run_storeCells_at P g (i*G.n k+j) t v.cells.toList 0 cur w hg (by simp [c1];omega) hone
  rw [Nat.add_zero,← putL_eq _ _ _ (by simp [c1];omega)] at hst
  unfold Oper.wp execOp
  simp only [ho,ep,hv,Instr.storeAt,Instr.sureAddr,storeVar,Sem.run_bind,Sem.run_pure,Result.andThen_ok,run_sizeB hn,← hgb,hst]
  rw [if_neg (by rw [c1,hm];simp)]
  simp only [Sem.run_bind,Sem.run_pure,Result.andThen_ok,hst,Oper.upon]
  rw [hds]
  exact hN G _ _ (ok.write _ hk hown hob hbd)
 have hobk:=ok.ob k ob hk
 cases ob with
 | box T' cells =>
  cases i with
  | succ i=>simp [AO.put] at hp
  | zero =>
   simp only [AO.put] at hp
   cases hle:Nat.ble (j+l.length) cells.length with
   | false=>simp [hle] at hp
   | true =>
    simp [hle] at hp
    subst hp
    have hle:=Nat.le_of_ble_eq_true hle
    obtain ⟨hf,cs,Φ,hbk,hs,hΦ,hΦd,hc⟩:=hobk.2.2
    refine fin (G.b k) cs T' hbk rfl (by rw [hs];simpa using hle) hf (fun q x hx=>?_) ⟨hf,_,fun q x=>¬ (j≤q∧q<j+l.length)∧Φ q x,setRow_heap w _ _ _ _ _ hbk,?_,fun q x hx=>hΦ q x hx.2,fun q q' x h1 h2=>hΦd q q' x h1.2 h2.2,?_⟩
    ·rw [putL_at hle] at hx
     split at hx
     ·exact cb _ x hx
     ·exact hobk.2.1 _ x hx
    ·simp only [Nat.zero_mul,Nat.zero_add,List.size_toArray]
     rw [putL_len (by simp [c1,hs];exact hle),putL_len hle];simpa using hs
    ·intro q x u hx hu
     simp only [Nat.zero_mul,Nat.zero_add,List.getElem?_toArray] at hu
     rw [putL_at hle] at hx
     rw [putL_at (by simp [c1,hs];exact hle)] at hu
     simp only [Array.length_toList,c1] at hu
     by_cases e:j≤q∧q<j+l.length
     ·rw [if_pos e] at hx hu
      exact .inl (c2 _ x u hx (by simpa using hu))
     ·rw [if_neg e] at hx hu
      refine ((hc q x u hx (by simpa using hu)).keep (Gh.le.refl _ σ.nk) (hobk.2.1 q x hx) fun z hz=>setRow_other w _ z _ (hΦ q z hz).2).wide fun z hz=>⟨e,hz⟩
 | row T' n rows =>
  simp only [AO.put] at hp
  cases hr':rows[i]? with
  | none=>simp [hr'] at hp
  | some r =>
   simp only [hr'] at hp
   by_cases hcond:j+l.length≤r.length∧l.all AV.pu0=true
   ·rw [if_pos hcond] at hp
    cases hp
    obtain ⟨hle,hpu⟩:=hcond
    obtain ⟨hn',hg,hR⟩:=hobk.2.2
    obtain ⟨g,cur,hvg,hφg,hh⟩:=hR.blk (by have:=(List.getElem?_eq_some_iff.1 hr').1;omega)
    have hgb:=hg g hvg
    obtain ⟨q1,q2⟩:=hR.put (X':=XP G.F) hr' hle (us:=v.cells.toList) (by simpa using c1) hone hh hvg (fun s x u ψ hs hu=>(pu0_bd (List.all_eq_true.1 hpu x (List.mem_of_getElem? hs)) 0).rp (c2 s x u hs (by simpa using hu))) (fun q s ψ x u _ _ h=>h)
    refine fin g cur T' hh hgb (by rw [hn'];simpa [c1] using q1) hφg trivial ⟨hn',hg,?_⟩
    rw [hn'];exact q2
   ·rw [if_neg hcond] at hp;cases hp
 | rwn T' n rows =>
  simp only [AO.put] at hp
  cases hr':rows[i]? with
  | none=>simp [hr'] at hp
  | some r =>
   simp only [hr'] at hp
   by_cases hcond:j+l.length≤r.length∧l.all AV.pu0=true
   ·rw [if_pos hcond] at hp
    cases hp
    obtain ⟨hle,hpu⟩:=hcond
    obtain ⟨hn',hg,hR⟩:=hobk.2.2
    obtain ⟨g,cur,hvg,hφg,hh⟩:=hR.blk (by have:=(List.getElem?_eq_some_iff.1 hr').1;omega)
    have hgb:=hg g hvg
    obtain ⟨q1,q2⟩:=hR.put (X':=XO G.F (w.setRow g (putL (i*n+j) v.cells.toList cur.toList).toArray)) hr' hle (us:=v.cells.toList) (by simpa using c1) hone hh hvg (fun s x u ψ hs hu=>.pu _ _ _ ((pu0_bd (List.all_eq_true.1 hpu x (List.mem_of_getElem? hs)) 0).rp (c2 s x u hs (by simpa using hu))))
     (fun q s ψ x u hne _ h=>OW.keep (fun _ _ h=>h) h fun z hz=>setRow_other w _ z _ (hne z hz))
    refine fin g cur T' hh hgb (by rw [hn'];simpa [c1] using q1) hφg trivial ⟨hn',hg,?_⟩
    rw [hn'];exact q2
   ·rw [if_neg hcond] at hp;cases hp
 | rof T' n rows hi hj y=>cases hp
 | rwo T' n rows hi hj y=>cases hp
 | bld T' e l'=>cases hp
 | opq q=>cases hp
end
end
section
open Go.RowKit
def AV.pu1:AV→Bool
 | .ag l=>l.all AV.pu0
 | av=>av.pu0
def AV.pu2:AV→Bool
 | .tu l=>l.all AV.pu1
 | av=>av.pu1
theorem pu1_bd {av:AV} (h:av.pu1=true)(nk:Nat):Bd nk av:=by
 cases av with
 | ag l=>exact .ag l fun i x hx=>pu0_bd (List.all_eq_true.1 h x (List.mem_of_getElem? hx)) nk
 | _=>refine pu0_bd ?_ nk;exact h
theorem pu2_bd {av:AV} (h:av.pu2=true)(nk:Nat):Bd nk av:=by
 cases av with
 | tu l=>exact .tu l fun i x hx=>pu1_bd (List.all_eq_true.1 h x (List.mem_of_getElem? hx)) nk
 | _=>refine pu1_bd ?_ nk;exact h
def St.evs (σ:St):List Operand→Option (List AV)
 | []=>some []
 | x::r =>
  match σ.ev x,St.evs σ r with
  | some av,some l=>some (av::l)
  | _,_=>none
section
variable {P:Program} {C:Cx} {σ σ':St} {G G':Gh} {a:Act} {w w':World} {o:Oper} {d:Tmp}
theorem Ok.evl (ok:Ok C σ G a w):∀ {xs:List Operand} {l:List AV},σ.evs xs=some l→(xs.map a.eval).length=l.length∧∀ (i:Nat)av u,l[i]?=some av→(xs.map a.eval)[i]?=some u→R G av u
 | [],l,h=>by cases h;exact ⟨rfl,fun i av u h=>by simp at h⟩
 | x::r,l,h=>by
  unfold St.evs at h
  cases h1:σ.ev x with
  | none=>simp [h1]at h
  | some av =>
   cases h2:σ.evs r with
   | none=>simp [h1,h2]at h
   | some l' =>
    simp [h1,h2]at h
    subst h
    obtain ⟨e1,e2⟩:=ok.evl h2
    refine ⟨by simpa using e1,fun i y u hy hu=>?_⟩
    cases i with
    | zero=>cases hy;cases hu;exact (ok.evr h1).2
    | succ i=>exact e2 i y u (by simpa using hy) (by simpa using hu)
theorem Ok.called (ok:Ok C σ G a w) {F':View} (hb:Below w.heap.size w w') (h1:View.le G.F F') (h2:∀ p u,F' p=some u→w'.cell? p=some u) (h3:∀ p u,F' p=some u→G.F p=some u∨w.heap.size≤p.block) :
  Ok C σ { G with F:=F' } a w' :=
 ok.world (S:=fun _=>False) ⟨h1,fun _ _=>rfl,fun _ _=>rfl,fun _ _=>rfl⟩ (fun _ _=>rfl) (Kept.below hb) (fun _ h=>h.elim) (fun k o x p q=>hb.block x (ok.my k o x p q).2) h2 h3
theorem WV.call {f:FuncId} {xs:Array Operand} {ts:Array TypeId} {args:List AV} {res:AV} (ho:o.op=.call { callee:=.value (.func f),args:=xs,argTypes:=ts }) (hc:∀ vs w,(callFunc f vs).run P w=.ok (.enter f vs) w)
  (hx:σ.evs xs.toList=some args) (hp:args.all AV.pu2=true) (h:Ctr P f args res):WV P C o σ res:=by
 intro G a w ok N Q' hN
 obtain ⟨e1,e2⟩:=ok.evl hx
 have hcalls:=h w G.F (xs.toList.map a.eval) ok.fw ⟨e1,fun i av u p q=>(pu2_bd (List.all_eq_true.1 hp av (List.mem_of_getElem? p)) 0).rp (e2 i av u p q)⟩
 unfold Oper.wp execOp
 have ev:a.eval (.func f)=.func (.func f) #[] #[]:=rfl
 have e3:(#[]++xs.map a.eval++#[]:Array Value)=(xs.toList.map a.eval).toArray:=by apply Array.ext';simp
 simp only [ho,resolve,ev,Deferred.ofValue,invoke,Sem.run_bind,Sem.run_pure,Result.andThen_ok,hc,Oper.upon,e3]
 refine hcalls.mono fun e w1 ⟨v,F',he,hb,h1,h2,h3,h4⟩=>?_
 subst he
 exact hN v _ w1 (fun σ'' a'' ok''=>ok''.called hb h1 h2 h3) (.pu _ _ h4) (h4.bd _)
theorem WV.inv {f:FuncId} {x:Operand} {name:String} {t:TypeId} {rv:Value} {l:List AV} {xs:Array Operand} {ts:Array TypeId} {args:List AV} {res:AV} (ho:o.op=.call { callee:=.invoke x name,args:=xs,argTypes:=ts })
  (hr:σ.ev x=some (.sc (.iface t rv))) (hc:∀ vs w,(callMethod (.iface t rv) name vs).run P w=.ok (.enter f (#[rv]++vs)) w) (hrv:rv=.agg #[])
  (hx:σ.evs xs.toList=some args) (hp:args.all AV.pu2=true) (h:Ctr P f (.ag []::args) res):WV P C o σ res:=by
 intro G a w ok N Q' hN
 obtain ⟨e1,e2⟩:=ok.evl hx
 subst hrv
 have hcalls:=h w G.F (.agg #[]::xs.toList.map a.eval) ok.fw ⟨by simpa using e1,fun i av u p q=>by
  cases i with
  | zero=>cases p;cases q;exact .ag [] #[] rfl fun i av u h=>by simp at h
  | succ i =>
   have p:args[i]?=some av:=by simpa using p
   exact (pu2_bd (List.all_eq_true.1 hp av (List.mem_of_getElem? p)) 0).rp (e2 i av u p (by simpa using q))⟩
 unfold Oper.wp execOp
 have e4:(#[Value.iface t (.agg #[])]++xs.map a.eval:Array Value)[0]?=some (Value.iface t (.agg #[])):=by rw [Array.getElem?_append_left (by simp)];rfl
 have e5:(#[Value.iface t (.agg #[])]++xs.map a.eval:Array Value).extract 1 (#[Value.iface t (.agg #[])]++xs.map a.eval:Array Value).size=xs.map a.eval:=by
  apply Array.ext'
  simp [List.take_of_length_le]
 simp only [ho,resolve,ok.evs hr,invoke,Sem.run_bind,Sem.run_pure,Result.andThen_ok,e4,e5,hc,Oper.upon]
 have e6:(#[Value.agg #[]]++xs.map a.eval:Array Value)=(Value.agg #[]::xs.toList.map a.eval).toArray:=by
  apply Array.ext'
  first|rfl|(simp;done)|(rw [Array.toList_append];simp;done)
 rw [e6]
 refine hcalls.mono fun e w1 ⟨v,F',he,hb,h1,h2,h3,h4⟩=>?_
 subst he
 exact hN v _ w1 (fun σ'' a'' ok''=>ok''.called hb h1 h2 h3) (.pu _ _ h4) (h4.bd _)
end
def AV.ren0 (ρ:Nat→Nat):AV→AV
 | .pt k i j=>.pt (ρ k) i j
 | .sl k=>.sl (ρ k)
 | av=>av
def AV.ren1 (ρ:Nat→Nat):AV→AV
 | .fn f l=>.fn f (l.map (AV.ren0 ρ))
 | av=>av.ren0 ρ
def AV.ren2 (ρ:Nat→Nat):AV→AV
 | .ag l=>.ag (l.map (AV.ren1 ρ))
 | av=>av.ren1 ρ
def AV.ren (ρ:Nat→Nat):AV→AV
 | .tu l=>.tu (l.map (AV.ren2 ρ))
 | av=>av.ren2 ρ
def AV.in0(nk:Nat):AV→Bool
 | .pt k _ _=>Nat.blt k nk
 | .sl k=>Nat.blt k nk
 | .ag _=>false
 | .tu _=>false
 | .fn _ _=>false
 | _=>true
def AV.in1 (nk:Nat):AV→Bool
 | .fn _ l=>l.all (AV.in0 nk)
 | av=>av.in0 nk
def AV.in2 (nk:Nat):AV→Bool
 | .ag l=>l.all (AV.in1 nk)
 | av=>av.in1 nk
def AV.inn (nk:Nat):AV→Bool
 | .tu l=>l.all (AV.in2 nk)
 | av=>av.in2 nk
def AO.ren (ρ:Nat→Nat):AO→AO
 | .box T cells=>.box T (cells.map (AV.ren1 ρ))
 | .rof T n rows hi hj x=>.rof T n rows hi hj (x.ren1 ρ)
 | .rwo T n rows hi hj x=>.rwo T n rows hi hj (x.ren1 ρ)
 | ob=>ob
def AO.inn (nk:Nat):AO→Bool
 | .box _ cells=>cells.all (AV.in1 nk)
 | .row _ _ _=>true
 | .rwn _ _ _=>true
 | .rof _ _ _ _ _ x=>x.in1 nk
 | .rwo _ _ _ _ _ x=>x.in1 nk
 | .bld _ _ _=>true
 | .opq _=>true
def TrT (σ:St)(ρ:Nat→Nat)(nk:Nat):List (Nat×AV)→Prop
 | []=>True
 | x::r=>(look x.1 σ.t=some (x.2.ren ρ)∧x.2.inn nk=true)∧TrT σ ρ nk r
def TrM (σ:St)(ρ:Nat→Nat)(nk:Nat):List (Nat×AO)→Prop
 | []=>True
 | x::r=>(look (ρ x.1) σ.M=some (x.2.ren ρ)∧x.2.inn nk=true∧Nat.blt x.1 nk=true)∧TrM σ ρ nk r
theorem in0_bd {nk:Nat} {av:AV} (h:av.in0 nk=true):Bd nk av:=by
 cases av with
 | sc v=>exact .sc v
 | ls n rows=>exact .ls n rows
 | ow T n rows=>exact .ow T n rows
 | pr cells=>exact .pr cells
 | pt k i j=>exact .pt k i j (of_blt h)
 | sl k=>exact .sl k (of_blt h)
 | _=>cases h
theorem in1_bd {nk:Nat} {av:AV} (h:av.in1 nk=true):Bd nk av:=by
 cases av with
 | fn f l=>exact .fn f l fun i x hx=>in0_bd (List.all_eq_true.1 h x (List.mem_of_getElem? hx))
 | _=>refine in0_bd ?_;exact h
theorem in2_bd {nk:Nat} {av:AV} (h:av.in2 nk=true):Bd nk av:=by
 cases av with
 | ag l=>exact .ag l fun i x hx=>in1_bd (List.all_eq_true.1 h x (List.mem_of_getElem? hx))
 | _=>refine in1_bd ?_;exact h
theorem inn_bd {nk:Nat} {av:AV} (h:av.inn nk=true):Bd nk av:=by
 cases av with
 | tu l=>exact .tu l fun i x hx=>in2_bd (List.all_eq_true.1 h x (List.mem_of_getElem? hx))
 | _=>refine in2_bd ?_;exact h
def Gh.ren (G:Gh)(ρ:Nat→Nat):Gh:=⟨G.F,fun k=>G.b (ρ k),fun k=>G.n (ρ k),fun k=>G.h (ρ k),fun k=>G.fp (ρ k)⟩
theorem R.ren0 {G:Gh} {ρ:Nat→Nat} {nk:Nat} {av:AV} {v:Value} (h:av.in0 nk=true)(r:R G (av.ren0 ρ) v):R (G.ren ρ) av v:=by
 cases av with
 | pt k i j=>obtain⟨p,rfl,a,b,c⟩:=r.pt_of;exact .pt k i j p a b c
 | sl k=>obtain⟨rfl,b⟩:=r.sl_of;exact R.sl (G:=G.ren ρ) k b
 | sc x=>rw [r.sc_eq];exact .pu _ _ (.sc x)
 | ls n rows=>exact .pu _ _ r.pu_of
 | pr cells=>exact .pu _ _ r.pr_of
 | ow T n rows=>exact r.no_ow.elim
 | _=>cases h
theorem R.ren1 {G:Gh} {ρ:Nat→Nat} {nk:Nat} {av:AV} {v:Value} (h:av.in1 nk=true) (r:R G (av.ren1 ρ) v):R (G.ren ρ) av v:=by
 cases av with
 | fn f l =>
  obtain ⟨cs,rfl,h1,h2⟩:=R.fn_of (l:=l.map (AV.ren0 ρ)) r
  exact .fn f l cs (by simpa using h1) fun i av u x y=>R.ren0 (List.all_eq_true.1 h av (List.mem_of_getElem? x)) (h2 i _ u (by rw [List.getElem?_map,x];rfl) y)
 | ag l=>cases h
 | tu l=>cases h
 | pt k i j=>exact R.ren0 (nk:=nk) h r
 | sl k=>exact R.ren0 (nk:=nk) h r
 | sc x=>exact R.ren0 (nk:=nk) h r
 | ls n rows=>exact R.ren0 (nk:=nk) h r
 | ow T n rows=>exact R.ren0 (nk:=nk) h r
 | pr cells=>exact R.ren0 (nk:=nk) h r
theorem R.ren2 {G:Gh} {ρ:Nat→Nat} {nk:Nat} {av:AV} {v:Value} (h:av.in2 nk=true) (r:R G (av.ren2 ρ) v):R (G.ren ρ) av v:=by
 cases av with
 | ag l =>
  obtain ⟨cs,rfl,h1,h2⟩:=R.ag_of (l:=l.map (AV.ren1 ρ)) r
  exact .ag l cs (by simpa using h1) fun i av u x y=>R.ren1 (List.all_eq_true.1 h av (List.mem_of_getElem? x)) (h2 i _ u (by rw [List.getElem?_map,x];rfl) y)
 | tu l=>cases h
 | fn f l=>exact R.ren1 (nk:=nk) h r
 | pt k i j=>exact R.ren1 (nk:=nk) h r
 | sl k=>exact R.ren1 (nk:=nk) h r
 | sc x=>exact R.ren1 (nk:=nk) h r
 | ls n rows=>exact R.ren1 (nk:=nk) h r
 | ow T n rows=>exact R.ren1 (nk:=nk) h r
 | pr cells=>exact R.ren1 (nk:=nk) h r
theorem R.ren_ {G:Gh} {ρ:Nat→Nat} {nk:Nat} {av:AV} {v:Value} (h:av.inn nk=true) (r:R G (av.ren ρ) v):R (G.ren ρ) av v:=by
 cases av with
 | tu l =>
  obtain ⟨cs,rfl,h1,h2⟩:=R.tu_of (l:=l.map (AV.ren2 ρ)) r
  exact .tu l cs (by simpa using h1) fun i av u x y=>R.ren2 (List.all_eq_true.1 h av (List.mem_of_getElem? x)) (h2 i _ u (by rw [List.getElem?_map,x];rfl) y)
 | ag l=>exact R.ren2 (nk:=nk) h r
 | fn f l=>exact R.ren2 (nk:=nk) h r
 | pt k i j=>exact R.ren2 (nk:=nk) h r
 | sl k=>exact R.ren2 (nk:=nk) h r
 | sc x=>exact R.ren2 (nk:=nk) h r
 | ls n rows=>exact R.ren2 (nk:=nk) h r
 | ow T n rows=>exact R.ren2 (nk:=nk) h r
 | pr cells=>exact R.ren2 (nk:=nk) h r
theorem CR.ren {G:Gh} {w:World} {ρ:Nat→Nat} {nk:Nat} {φ:Nat→Prop} {av:AV} {v:Value} (h:av.in1 nk=true)(r:CR G w φ (av.ren1 ρ) v):CR (G.ren ρ) w φ av v:=by
 rcases r with r|o
 ·exact .inl (R.ren1 h r)
 ·by_cases ho:av.own=true
  ·cases av with
   | ow T n rows=>exact .inr o
   | _=>cases ho
  ·have ho2:(av.ren1 ρ).own=false:=by cases av<;>first|rfl|exact absurd rfl ho
   exact .inl (R.ren1 h (.pu _ _ (OW.p o ho2)))
theorem ObAt.ren {G:Gh} {w:World} {ρ:Nat→Nat} {nk k:Nat} {ob:AO} (h:ob.inn nk=true) (g:ObAt G w (ρ k) (ob.ren ρ)):ob.bd nk∧ObAt (G.ren ρ) w k ob:=by
 cases ob with
 | box T cells =>
  obtain ⟨b1,cs,Φ,b2,b3,b4,b5,b6⟩:=g
  exact ⟨fun i av x=>in1_bd (List.all_eq_true.1 h av (List.mem_of_getElem? x)),b1,cs,Φ,b2,by simpa using b3,b4,b5,fun i av u x y=>CR.ren (List.all_eq_true.1 h av (List.mem_of_getElem? x)) (b6 i _ u (by rw [List.getElem?_map,x];rfl) y)⟩
 | row T n rows=>exact ⟨trivial,g⟩
 | rwn T n rows=>exact ⟨trivial,g⟩
 | rof T n rows hi hj y =>
  obtain ⟨g1,g2,g3⟩:=g
  refine ⟨in1_bd h,g1,g2,g3.keep (fun _ _=>rfl) fun i r j av ψ u _ _ _ x=>?_⟩
  unfold XH at x ⊢
  by_cases e:i=hi∧j=hj
  ·rw [if_pos e] at x ⊢
   exact R.ren1 h x
  ·rw [if_neg e] at x ⊢
   exact x
 | rwo T n rows hi hj y =>
  obtain ⟨g1,g2,g3⟩:=g
  refine ⟨in1_bd h,g1,g2,g3.keep (fun _ _=>rfl) fun i r j av ψ u _ _ _ x=>?_⟩
  unfold XQ at x ⊢
  by_cases e:i=hi∧j=hj
  ·rw [if_pos e] at x ⊢
   exact R.ren1 h x
  ·rw [if_neg e] at x ⊢
   exact x
 | bld T e l=>exact ⟨trivial,g⟩
 | opq q=>exact ⟨trivial,g⟩
theorem TrT.at_ {σ:St} {ρ:Nat→Nat} {nk:Nat}:∀ {t:List (Nat×AV)},TrT σ ρ nk t→∀ i av,look i t=some av→look i σ.t=some (av.ren ρ)∧av.inn nk=true
 | [],_,i,av,h=>by cases h
 | x::r,ht,i,av,h=>by
  by_cases e:i=x.1
  ·subst e
   rw [show look x.1 (x::r)=some x.2 from look_set_same]at h
   cases h
   exact ht.1
  ·rw [show look i (x::r)=look i r from look_set_other e]at h
   exact TrT.at_ ht.2 i av h
theorem TrM.at_ {σ:St} {ρ:Nat→Nat} {nk:Nat}:∀ {t:List (Nat×AO)},TrM σ ρ nk t→∀ i ob,look i t=some ob→look (ρ i) σ.M=some (ob.ren ρ)∧ob.inn nk=true∧i<nk
 | [],_,i,av,h=>by cases h
 | x::r,ht,i,av,h=>by
  by_cases e:i=x.1
  ·subst e
   rw [show look x.1 (x::r)=some x.2 from look_set_same] at h
   cases h
   exact⟨ht.1.1,ht.1.2.1,of_blt ht.1.2.2⟩
  ·rw [show look i (x::r)=look i r from look_set_other e] at h
   exact TrM.at_ ht.2 i av h
def injB (ρ:Nat→Nat):List Nat→Bool
 | []=>true
 | k::r=>r.all (fun q=>Nat.beq k q|| !Nat.beq (ρ k) (ρ q)) && injB ρ r
theorem injB_spec {ρ:Nat→Nat}:∀ {l:List Nat},injB ρ l=true→∀ k q,k∈l→q∈l→ρ k=ρ q→k=q
 | [],_,k,q,h,_=>by cases h
 | x::r,h,k,q,hk,hq=>fun e=>by
  simp only [injB,Bool.and_eq_true,List.all_eq_true,Bool.or_eq_true,Bool.not_eq_true']at h
  rcases List.mem_cons.1 hk with hk1|hk1
  ·rcases List.mem_cons.1 hq with hq1|hq1
   ·rw [hk1,hq1]
   ·rcases h.1 q hq1 with y|y
    ·rw [hk1];exact Nat.eq_of_beq_eq_true y
    ·rw [← hk1,e]at y;simp at y
  ·rcases List.mem_cons.1 hq with hq1|hq1
   ·rcases h.1 k hk1 with y|y
    ·rw [hq1];exact(Nat.eq_of_beq_eq_true y).symm
    ·rw [← hq1,e]at y;simp at y
   ·exact injB_spec h.2 k q hk1 hq1 e
theorem look_mem {α:Type}:∀ {l:List (Nat×α)} {i:Nat} {x:α},look i l=some x→i∈l.map (·.1)
 | [],i,x,h=>by cases h
 | y::r,i,x,h=>by
  by_cases e:i=y.1
  ·subst e;simp
  ·rw [show look i (y::r)=look i r from look_set_other e]at h
   have:=look_mem h
   simp only [List.map_cons,List.mem_cons];exact .inr this
def pinB (ρ:Nat→Nat)(nk:Nat):Nat→Bool
 | 0=>true
 | n+1=>Nat.beq (ρ n) n && Nat.blt n nk && pinB ρ nk n
theorem pinB_of {ρ:Nat→Nat} {nk:Nat}:∀ {n:Nat},pinB ρ nk n=true→n≤nk∧∀ k,k<n→ρ k=k
 | 0,_=>⟨Nat.zero_le _,fun k hk=>absurd hk (Nat.not_lt_zero k)⟩
 | n+1,h=>by
  simp only [pinB,Bool.and_eq_true]at h
  obtain⟨h1,h2⟩:=pinB_of h.2
  refine⟨of_blt h.1.2,fun k hk=>?_⟩
  by_cases e:k=n
  ·rw [e];exact Nat.eq_of_beq_eq_true h.1.1
  ·exact h2 k zqo
theorem Tr.ren {C:Cx} {σ σ':St} (ρ:Nat→Nat) (ht:TrT σ ρ σ'.nk σ'.t) (hm:TrM σ ρ σ'.nk σ'.M) (hi:(injB ρ (σ'.M.map (·.1)) && pinB ρ σ'.nk C.np)=true):Tr C σ σ':=fun G a w ok=>by
 rw [Bool.and_eq_true] at hi
 obtain ⟨hi,hpn⟩:=hi
 obtain ⟨hp1,hp2⟩:=pinB_of hpn
 refine ⟨G.ren ρ,ok.sz,⟨ok.df.1,hp1,fun k hk=>by
  show G.b (ρ k)=_∧G.n (ρ k)=_∧G.h (ρ k)=_
  rw [hp2 k hk];exact ok.df.2.2 k hk⟩,fun i av h=>?_,ok.bel,ok.fw,ok.f0,ok.f1,fun k ob h=>?_,fun k o x h1 h2=>?_,?_,?_⟩
 ·obtain ⟨h1,h2⟩:=ht.at_ i av h
  exact ⟨(ok.tm i _ h1).1,inn_bd h2,R.ren_ h2 (ok.tm i _ h1).2.2⟩
 ·obtain ⟨h1,h2,h3⟩:=hm.at_ k ob h
  obtain ⟨g1,g2,g3⟩:=ok.ob _ _ h1
  obtain ⟨p,q⟩:=ObAt.ren h2 g3
  exact ⟨h3,p,q⟩
 ·exact ok.my _ _ x (hm.at_ k o h1).1 h2
 ·intro k o k' o' x h1 h2 h3 h4
  have:=ok.dj _ _ _ _ x (hm.at_ k o h1).1 (hm.at_ k' o' h2).1 h3 h4
  exact injB_spec hi k k' (look_mem h1) (look_mem h2) this
 ·intro k o x p u h1 h2 h3
  exact ok.dF _ _ x p u (hm.at_ k o h1).1 h2 h3
theorem zqt {C:Cx} {σ σ':St} (ρ:Nat → Nat) (ht:TrT σ ρ σ'.nk σ'.t:=by repeat (first|exact trivial|refine ⟨⟨?_,?_⟩,?_⟩|rfl)) (hm:TrM σ ρ σ'.nk σ'.M:=by repeat (first|exact trivial|refine ⟨⟨?_,?_,?_⟩,?_⟩|rfl)) (hi:(injB ρ (σ'.M.map (·.1)) && pinB ρ σ'.nk C.np) = true:=by rfl):Tr C σ σ':=Tr.ren ρ ht hm hi
theorem zqu {C:Cx} {σ σ':St} (ρ:Nat → Nat) (hm:TrM σ ρ σ'.nk σ'.M) (hi:(injB ρ (σ'.M.map (·.1)) && pinB ρ σ'.nk C.np) = true) (ht:TrT σ ρ σ'.nk σ'.t:=by repeat (first|exact trivial|refine ⟨⟨?_,?_⟩,?_⟩|rfl)):Tr C σ σ':=Tr.ren ρ ht hm hi
end
end Go.Proofs.YthehkchjdkdbiaaGreatDoor
