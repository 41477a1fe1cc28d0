/- Texts cut at a byte; reports of losses: plain words. -/
import Derived.Test.YthehkchjdkdbiaaGreatDoorRefHq
import Derived.Lib.SplitLaws
import Derived.Lib.AtoiAll
import Derived.Lib.Fields
import Derived.Lib.ItoaNum
set_option linter.unusedVariables false
set_option linter.unusedSimpArgs false
namespace Go.Proofs.YthehkchjdkdbiaaGreatDoor
section
open Go.RowKit
def St.ev (σ:St):Operand→Option AV
 | .tmp t=>look t σ.t
 | .const v=>some (.sc v)
 | .func f=>some (.sc (.func (.func f) #[] #[]))
 | .global g=>some (.sc (.pointer (some ⟨g,0,none⟩)))
def St.set(σ:St)(d:Option Tmp)(av:AV):St :=
 match d with
 | none=>σ
 | some d=>{ σ with t:=(d,av)::σ.t }
def St.put(σ:St)(d:Tmp)(av:AV):St:={ σ with t:=(d,av)::σ.t }
section
variable {P:Program} {C:Cx} {σ σ':St} {G G':Gh} {a:Act} {w w':World}
theorem Ok.evr (h:Ok C σ G a w) {x:Operand} {av:AV} (hx:σ.ev x=some av):Bd σ.nk av∧R G av (a.eval x):=by
 cases x with
 | tmp t=>exact⟨(h.tm t av hx).2.1,(h.tm t av hx).2.2⟩
 | const v=>cases hx;exact⟨.sc _,.pu _ _ (.sc _)⟩
 | func f=>cases hx;exact⟨.sc _,.pu _ _ (.sc _)⟩
 | global g=>cases hx;exact⟨.sc _,.pu _ _ (.sc _)⟩
theorem Ok.evs (h:Ok C σ G a w) {x:Operand} {v:Value} (hx:σ.ev x=some (.sc v)):a.eval x=v:=(h.evr hx).2.sc_eq
theorem getD_set_(ts:Array Value)(d i:Nat)(v:Value)(hd:d<ts.size):(ts.setIfInBounds d v).getD i undef=if d=i then v else ts.getD i undef:=by
 by_cases e:d=i
 ·subst e;simp [Array.getD,hd]
 ·simp only [if_neg e,Array.getD_eq_getD_getElem?,Array.getElem?_setIfInBounds_ne e]
theorem Ok.set (h:Ok C σ G a w) {d:Option Tmp} {av:AV} {v:Value} (hR:R G av v)(hb:Bd σ.nk av)(hd:∀ x,d=some x→x<C.N):Ok C (σ.set d av) G (a.put d v) w:=by
 cases d with
 | none=>exact h
 | some d =>
  have hd:=hd d rfl
  refine⟨?_,h.df,?_,h.bel,h.fw,h.f0,h.f1,h.ob,h.my,h.dj,h.dF⟩
  ·show (a.tmps.setIfInBounds d v).size=C.N
   rw [Array.size_setIfInBounds];exact h.sz
  ·intro i x hx
   show i<C.N∧Bd σ.nk x∧R G x ((a.tmps.setIfInBounds d v).getD i undef)
   rw [getD_set_ _ _ _ _ (by rw [h.sz];exact hd)]
   by_cases e:d=i
   ·subst e
    rw [show look d (St.set σ (some d) av).t=some av from look_set_same] at hx
    cases hx
    rw [if_pos rfl]
    exact⟨hd,hb,hR⟩
   ·rw [show look i (St.set σ (some d) av).t=look i σ.t from look_set_other (fun x=>e x.symm)] at hx
    rw [if_neg e]
    exact h.tm i x hx
theorem ownsRowF_keep {w w':World} {B e size n:Nat} {v:Value} {xs:List Value} (h:w.ownsRowF B e size v n xs) (hk:∀ g,v.ownBlock=some g→w'.heap[g]?=w.heap[g]?):w'.ownsRowF B e size v n xs:=by
 refine ⟨h.1,?_⟩
 rcases h.2 with x|⟨g,cap,cur,fz,e,hb,hh,hr⟩
 ·exact .inl x
 ·exact .inr ⟨g,cap,cur,fz,e,hb,(hk g (by rw [e];rfl)).trans hh,hr⟩
theorem RowIs.keep {T n:Nat} {rows:List (List AV)} {v:Value} {φ:Nat→Prop} {X X':Nat→Nat→(Nat→Prop)→AV→Value→Prop} (h:RowIs w T n rows v φ X) (hw:∀ x,φ x→w'.heap[x]?=w.heap[x]?)
  (hX:∀ (i:Nat)r (j:Nat)av ψ u,rows[i]?=some r→r[j]?=some av→(∀ x,ψ x→w'.heap[x]?=w.heap[x]?)→X i j ψ av u→X' i j ψ av u):RowIs w' T n rows v φ X':=by
 obtain ⟨h1,vs,Φ,h2,h3,h4,h5,h6,h7,h8,h9⟩:=h
 exact ⟨h1,vs,Φ,ownsRow_keep h2 fun g hg=>hw g (h5 g hg),h3,h4,h5,h6,h7,h8,fun i r r' j av u a b c d=>hX i r j av _ u a c (fun x hx=>hw x (h6 i j x hx).1) (h9 i r r' j av u a b c d)⟩
theorem ObAt.keep {nk k:Nat} {o:AO} (h:ObAt G w k o) (hle:G.le G' nk) (hk:k<nk) (hb:o.bd nk) (hf:G'.fp k=G.fp k) (hw:∀ x,G.fp k x→w'.heap[x]?=w.heap[x]?):ObAt G' w' k o:=by
 cases o with
 | box T cells =>
  obtain ⟨h1,cs,Φ,h2,h3,h4,h5,h6⟩:=h
  refine ⟨by rw [hf,hle.b k hk];exact h1,cs,Φ,?_,h3,by rw [hf,hle.b k hk];exact h4,h5,fun i av u x y=>(h6 i av u x y).keep hle (hb i av x) fun z hz=>hw z (h4 i z hz).1⟩
  rw [hle.b k hk]
  exact (hw _ h1).trans h2
 | row T n rows =>
  obtain ⟨h1,h2,h3⟩:=h
  refine ⟨by rw [hle.n k hk];exact h1,by rw [hle.h k hk,hle.b k hk];exact h2,?_⟩
  rw [hf,hle.h k hk]
  exact h3.keep hw fun i r j av ψ u _ _ hψ x=>RP.mono hle.F x
 | rwn T n rows =>
  obtain ⟨h1,h2,h3⟩:=h
  refine ⟨by rw [hle.n k hk];exact h1,by rw [hle.h k hk,hle.b k hk];exact h2,?_⟩
  rw [hf,hle.h k hk]
  exact h3.keep hw fun i r j av ψ u _ _ hψ x=>OW.keep hle.F x hψ
 | rof T n rows hi hj y =>
  obtain ⟨h1,h2,h3⟩:=h
  refine ⟨by rw [hle.n k hk];exact h1,by rw [hle.h k hk,hle.b k hk];exact h2,?_⟩
  rw [hf,hle.h k hk]
  refine h3.keep hw fun i r j av ψ u hr hav hψ x=>?_
  unfold XH at x ⊢
  by_cases e:i=hi∧j=hj
  ·rw [if_pos e] at x ⊢
   exact R.mono hle x hb
  ·rw [if_neg e] at x ⊢
   exact RP.mono hle.F x
 | rwo T n rows hi hj y =>
  obtain ⟨h1,h2,h3⟩:=h
  refine ⟨by rw [hle.n k hk];exact h1,by rw [hle.h k hk,hle.b k hk];exact h2,?_⟩
  rw [hf,hle.h k hk]
  refine h3.keep hw fun i r j av ψ u hr hav hψ x=>?_
  unfold XQ at x ⊢
  by_cases e:i=hi∧j=hj
  ·rw [if_pos e] at x ⊢
   exact R.mono hle x hb
  ·rw [if_neg e] at x ⊢
   exact OW.keep hle.F x hψ
 | bld T e l =>
  obtain ⟨h1,p,v,h2,h3,h4,h5⟩:=h
  refine ⟨by rw [hf,hle.b k hk];exact h1,p,v,by rw [hle.b k hk];exact h2,?_,ownsRowF_keep h4 fun g hg=>hw g (h5 g hg).1,by rw [hf,hle.b k hk];exact h5⟩
  rw [hle.b k hk]
  exact (hw _ h1).trans h3
 | opq q =>
  show q.Q w' (G'.b k) (G'.h k) (G'.fp k)
  rw [hle.b k hk,hle.h k hk,hf]
  exact q.st _ _ _ _ _ hw h
theorem Ok.world {S:Nat→Prop} (h:Ok C σ G a w) (hle:G.le G' σ.nk) (hfp:∀ k,k<σ.nk→G'.fp k=G.fp k) (hb:Kept S w w') (hS:∀ x,S x→C.may x) (hw:∀ k o x,look k σ.M=some o→G.fp k x→w'.heap[x]?=w.heap[x]?)
  (hfw:∀ p u,G'.F p=some u→w'.cell? p=some u) (hn:∀ p u,G'.F p=some u→G.F p=some u∨w.heap.size≤p.block):Ok C σ G' a w':=by
 refine ⟨h.sz,⟨h.df.1,h.df.2.1,fun k hk=>by
  have hk2:=Nat.lt_of_lt_of_le hk h.df.2.1
  rw [hle.b k hk2,hle.n k hk2,hle.h k hk2];exact h.df.2.2 k hk⟩,fun i av x=>⟨(h.tm i av x).1,(h.tm i av x).2.1,(h.tm i av x).2.2.mono hle (h.tm i av x).2.1⟩,h.bel.on hb hS,hfw,fun p u x=>hle.F _ _ (h.f0 p u x),?_,?_,?_,?_,?_⟩
 ·intro p u x
  rcases hn p u x with y|y
  ·exact h.f1 p u y
  ·exact .inr (.inl (Nat.le_trans h.bel.size y))
 ·intro k o x
  obtain ⟨a1,a2,a3⟩:=h.ob k o x
  exact ⟨a1,a2,a3.keep hle a1 a2 (hfp k a1) (fun y hy=>hw k o y x hy)⟩
 ·intro k o x h1 h2
  rw [hfp k (h.ob k o h1).1]at h2
  exact ⟨(h.my k o x h1 h2).1,Nat.lt_of_lt_of_le (h.my k o x h1 h2).2 hb.size⟩
 ·intro k o k' o' x h1 h2 h3 h4
  rw [hfp k (h.ob k o h1).1]at h3
  rw [hfp k' (h.ob k' o' h2).1]at h4
  exact h.dj k o k' o' x h1 h2 h3 h4
 ·intro k o x p u h1 h2 h3
  rw [hfp k (h.ob k o h1).1]at h2
  rcases hn p u h3 with y|y
  ·exact h.dF k o x p u h1 h2 y
  ·have:=(h.my k o x h1 h2).2
   omega
theorem Ok.drew (h:Ok C σ G a w):Ok C σ G a w.drew :=
 h.world (S:=fun _=>False) (Gh.le.refl _ _) (fun _ _=>rfl) ⟨rfl,rfl,rfl,Nat.le_refl _,fun _ _ _=>rfl⟩ (fun _ x=>x.elim) (fun _ _ _ _ _=>rfl) h.fw (fun _ _ x=>.inl x)
end
def Tr(C:Cx)(σ σ':St):Prop:=∀ G a w,Ok C σ G a w→∃ G',Ok C σ' G' a w
theorem Tr.trans {C:Cx} {σ σ' σ'':St} (h:Tr C σ σ')(k:Tr C σ' σ''):Tr C σ σ'':=fun G a w x=>by
 obtain⟨G',y⟩:=h G a w x
 exact k G' a w y
def Post(C:Cx)(Q:Exit→St→Prop):Exit→Act→World→Prop:=fun e a w=>∃ σ G,Q e σ∧Ok C σ G a w
def W (P:Program)(C:Cx)(c:Code)(σ:St)(Q:Exit→St→Prop):Prop:=∀ G a w,Ok C σ G a w→c.wp P (Post C Q) a w
def WL (P:Program)(C:Cx)(ops:Array Oper)(l:List Oper)(σ:St)(Q:Exit→St→Prop):Prop:=∀ G a w,Ok C σ G a w→wpList P ops (Post C Q) l a w
def WO(P:Program)(C:Cx)(o:Oper)(σ σ':St):Prop :=
 ∀ G a w,Ok C σ G a w→∀ (N:Act→World→Prop)(Q':Exit→Act→World→Prop),(∀ G' a' w',Ok C σ' G' a' w'→N a' w')→o.wp P a w N Q'
section
variable {P:Program} {C:Cx} {σ σ':St} {Q Q':Exit→St→Prop}
theorem W.tr {c:Code} (h:Tr C σ σ')(k:W P C c σ' Q):W P C c σ Q:=fun G a w x=>by
 obtain⟨G',y⟩:=h G a w x
 exact k G' a w y
theorem WL.tr {ops:Array Oper} {l:List Oper} (h:Tr C σ σ')(k:WL P C ops l σ' Q):WL P C ops l σ Q:=fun G a w x=>by
 obtain⟨G',y⟩:=h G a w x
 exact k G' a w y
theorem W.mono {c:Code} (h:W P C c σ Q)(hq:∀ e s,Q e s→Q' e s):W P C c σ Q':=fun G a w x =>
 wp_mono (h G a w x) fun e a w⟨s,g,q,o⟩=>⟨s,g,hq e s q,o⟩
theorem W.skip(h:Q .normal σ):W P C .skip σ Q:=fun G a w x=>wp_skip ⟨σ,G,h,x⟩
theorem W.exit {id:Nat} (h:Q (.exit id) σ):W P C (.exit id) σ Q:=fun G a w x=>wp_exit ⟨σ,G,h,x⟩
theorem W.ret(h:Q .ret σ):W P C .ret σ Q:=fun G a w x=>wp_ret ⟨σ,G,h,x⟩
def QThen(N:St→Prop)(Q:Exit→St→Prop):Exit→St→Prop
 | .normal,s=>N s
 | e,s=>Q e s
def QBlock (id:Nat)(Q:Exit→St→Prop):Exit→St→Prop
 | .exit id',s=>if id'=id then Q .normal s else Q (.exit id') s
 | e,s=>Q e s
theorem W.seq {x y:Code} (h:W P C x σ (QThen (fun s=>W P C y s Q) Q)):W P C (.seq x y) σ Q:=fun G a w ok =>
 wp_seq (wp_mono (h G a w ok) fun e a w⟨s,g,q,o⟩=>by
  cases e with
  | normal=>exact q g a w o
  | exit id=>exact⟨s,g,q,o⟩
  | goto l=>exact⟨s,g,q,o⟩
  | ret=>exact⟨s,g,q,o⟩
  | panic c=>exact⟨s,g,q,o⟩
  | outgrown=>exact⟨s,g,q,o⟩)
theorem W.block {id:Nat} {c:Code} (h:W P C c σ (QBlock id Q)):W P C (.block id c) σ Q:=fun G a w ok =>
 wp_block (wp_mono (h G a w ok) fun e a w⟨s,g,q,o⟩=>by
  cases e with
  | exit id' =>
   show if id'=id then _ else _
   by_cases e:id'=id
   ·rw [if_pos e];exact⟨s,g,by simpa [QBlock,e] using q,o⟩
   ·rw [if_neg e];exact⟨s,g,by simpa [QBlock,e] using q,o⟩
  | normal=>exact⟨s,g,q,o⟩
  | goto l=>exact⟨s,g,q,o⟩
  | ret=>exact⟨s,g,q,o⟩
  | panic c=>exact⟨s,g,q,o⟩
  | outgrown=>exact⟨s,g,q,o⟩)
theorem W.cond {c:Operand} {x y:Code} {t:Bool} (hc:σ.ev c=some (.sc (.bool t)))(h1:t=true→W P C x σ Q)(h2:t=false→W P C y σ Q):W P C (.cond c x y) σ Q:=fun G a w ok=>by
 refine wp_cond (ok.evs hc) ?_
 cases t
 ·exact h2 rfl G a w ok
 ·exact h1 rfl G a w ok
theorem W.loop {c:Code} {X:Type} (I:X→Prop) (S:X→St) (μ:X→Nat) (x0:X) (h0:I x0) (hi:Tr C σ (S x0))
  (round:∀ x,I x→W P C c (S x) (QThen (fun s=>∃ x',I x'∧μ x'<μ x∧Tr C s (S x')) Q)):W P C (.loop c) σ Q:=by
 intro G a w ok b k cs
 have key:∀ n x G a w,μ x=n→I x→Ok C (S x) G a w→∃ e a' w',Post C Q e a' w'∧Arrives P (lone (b.at a (.code c::.inLoop c::k)) cs w) b k cs e a' w':=by
  intro n
  induction n using Nat.strongRecOn with
  | _ n ih =>
   intro x G a w hn hI ok
   obtain ⟨e,a1,w1,⟨s,g,hq,o1⟩,harr⟩:=round x hI G a w ok b (.inLoop c::k) cs
   cases e with
   | normal =>
    obtain ⟨x',hI',hlt,ht⟩:=hq
    obtain ⟨g',o2⟩:=ht g a1 w1 o1
    obtain ⟨e2,a2,w2,hq2,harr2⟩:=ih (μ x') (hn ▸ hlt) x' g' a1 w1 rfl hI' o2
    exact ⟨e2,a2,w2,hq2,.of_steps (Steps.trans harr (.one step_inLoop)) harr2⟩
   | exit id=>exact ⟨_,a1,w1,⟨s,g,hq,o1⟩,.pass (x:=.inLoop c) rfl (fun _ _=>.inl (by simp)) harr⟩
   | goto l=>exact ⟨_,a1,w1,⟨s,g,hq,o1⟩,.pass (x:=.inLoop c) rfl (fun _ _=>.inl (by simp)) harr⟩
   | ret=>exact ⟨_,a1,w1,⟨s,g,hq,o1⟩,.pass (x:=.inLoop c) rfl (fun _ _=>.inl (by simp)) harr⟩
   | panic ch=>exact ⟨_,a1,w1,⟨s,g,hq,o1⟩,.pass (x:=.inLoop c) rfl (fun _ _=>.inl (by simp)) harr⟩
   | outgrown=>exact ⟨_,a1,w1,⟨s,g,hq,o1⟩,.pass (x:=.inLoop c) rfl (fun _ _=>.inl (by simp)) harr⟩
 obtain ⟨g0,ok0⟩:=hi G a w ok
 obtain ⟨e,a',w',hq,harr⟩:=key _ x0 g0 a w rfl h0 ok0
 exact ⟨e,a',w',hq,.of_steps (.one step_loop) harr⟩
theorem W.region {id:Nat} {l:List Oper} (h:WL P C l.toArray l σ Q):W P C (.region id l.toArray false) σ Q:=fun G a w ok=>wp_region_lit (h G a w ok)
theorem WL.nil {ops:Array Oper} (h:Q .normal σ):WL P C ops [] σ Q:=fun G a w ok=>wpList_nil ⟨σ,G,h,ok⟩
theorem WL.op {ops:Array Oper} {o:Oper} {rest:List Oper} (hg:o.guard=none)(h:WO P C o σ σ')(k:WL P C ops rest σ' Q):WL P C ops (o::rest) σ Q:=fun G a w ok =>
 wpList_plain hg fun K hK=>h G a w ok K _ fun G' a' w' ok'=>hK _ _ (k G' a' w' ok')
theorem of_blt {a b:Nat} (h:Nat.blt a b=true):a<b:=Nat.lt_of_succ_le (by simpa [Nat.blt]using h)
def vb:Value→Option Bool
 | .bool b=>some b
 | _=>none
theorem yielded_of {ops:Array Oper} {G:Gh} {a:Act} {w:World} (ok:Ok C σ G a w) {j:Nat} {oj:Oper} {d:Tmp} {v:Value} (hj:ops[j]?=some oj)(hd:oj.dst=some d)(hv:look d σ.t=some (.sc v)) :
  yielded ops a.tmps j=vb v:=by
 have h1:=ok.tm d _ hv
 have h2:=h1.2.2.sc_eq
 have h3:a.tmps[d]?=some v:=by
  have hlt:d<a.tmps.size:=by rw [ok.sz];exact h1.1
  rw [Array.getElem?_eq_getElem hlt]
  simpa [Array.getD,hlt]using h2
 simp only [yielded,hj,Option.bind_some,hd,h3]
 cases v<;>rfl
theorem WL.opn {ops:Array Oper} {o oj:Oper} {rest:List Oper} {j:Nat} {b:Bool} {d d':Tmp} {v:Value} (hg:o.guard=some (j,b)) (hj:ops[j]?=some oj) (hd:oj.dst=some d) (hv:look d σ.t=some (.sc v))
  (hb:vb v≠some b) (hds:o.dst=some d') (hdn:Nat.blt d' C.N=true) (h:WL P C ops rest (σ.put d' (.sc undef)) Q):WL P C ops (o::rest) σ Q:=fun G a w ok =>
 wpList_step fun K hK=>by
  have hy:=yielded_of (ops:=ops) ok hj hd hv
  rw [if_neg (by simp only [Region.wanted,hg,hy];simpa using hb)]
  rw [hds]
  exact hK _ _ (h G _ w (ok.set (d:=some d') (.pu _ _ (.sc _)) (.sc _) fun x hx=>by cases hx;exact of_blt hdn))
theorem WL.part {ops:Array Oper} {l:List Oper} {d:Tmp} {b:Bool} (hv:look d σ.t=some (.sc (.bool b))) (h1:b=true→WL P C ops l (σ.set (some d) (.sc (.bool true))) Q) (h2:b=false→WL P C ops l (σ.set (some d) (.sc (.bool false))) Q):WL P C ops l σ Q:=fun G a w ok=>by
 have key:∀ c,b=c→Ok C (σ.set (some d) (.sc (.bool c))) G a w:=fun c e=>by
  subst e
  refine ⟨ok.sz,ok.df,fun i x hx=>?_,ok.bel,ok.fw,ok.f0,ok.f1,ok.ob,ok.my,ok.dj,ok.dF⟩
  by_cases hi:i=d
  ·subst hi
   rw [show look i (St.set σ (some i) (.sc (.bool b))).t=_ from look_set_same] at hx
   cases hx
   exact ok.tm i _ hv
  ·rw [show look i (St.set σ (some d) (.sc (.bool b))).t=_ from look_set_other hi] at hx
   exact ok.tm i x hx
 cases b
 ·exact h2 rfl G a w (key _ rfl)
 ·exact h1 rfl G a w (key _ rfl)
end
def Ctr(P:Program)(f:FuncId)(args:List AV)(res:AV):Prop :=
 ∀ (w:World)(F:View)(vs:List Value),(∀ p u,F p=some u→w.cell? p=some u)→RL F args vs →
  Calls P f vs.toArray w fun e w'=>∃ v F',e=.returned v∧Below w.heap.size w w'∧View.le F F'∧(∀ p u,F' p=some u→w'.cell? p=some u)∧(∀ p u,F' p=some u→F p=some u∨w.heap.size≤p.block)∧RP F' res v
def number {α:Type}:Nat→List α→List (Nat×α)
 | _,[]=>[]
 | n,x::r=>(n,x)::number (n+1) r
theorem look_number {α:Type}:∀ (l:List α)(n i:Nat)(x:α),look i (number n l)=some x→n≤i∧l[i-n]?=some x
 | [],n,i,x,h=>by cases h
 | y::r,n,i,x,h=>by
  by_cases e:i=n
  ·subst e
   rw [show look i (number i (y::r))=some y from look_set_same] at h
   cases h
   simp
  ·rw [show look i (number n (y::r))=look i (number (n+1) r) from look_set_other e] at h
   obtain⟨h1,h2⟩:=look_number r (n+1) i x h
   refine⟨by omega,?_⟩
   rw [show i-n=(i-(n+1))+1 by omega]
   simpa using h2
def St.init(args:List AV):St:=⟨number 0 args,[],0⟩
def G0:Gh:=⟨fun _=>none,fun _=>0,fun _=>0,fun _=>undef,fun _ _=>False⟩
def Fin(P:Program)(fn:Func)(C:Cx)(σ:St)(res:AV):Prop :=
 ∀ G a w,Ok C σ G a w→∃ v F',(results fn a.tmps).run P w=.ok v w∧View.le G.F F'∧(∀ p u,F' p=some u→w.cell? p=some u)∧(∀ p u,F' p=some u→G.F p=some u∨C.may p.block)∧RP F' res v
def QFin(P:Program)(fn:Func)(C:Cx)(res:AV):Exit→St→Prop:=fun e σ=>(e=.normal∨e=.ret)∧Fin P fn C σ res
theorem Ctr.intro {P:Program} {f:FuncId} {fn:Func} {c:Code} {args:List AV} {res:AV} (hf:P.funcs[f]?=some fn) (hb:fn.body=some c) {N:Nat} (hN:fn.ntmps=N) (hn:args.length≤N) (hp:∀ (i:Nat) av,args[i]?=some av→Bd 0 av)
  (h:∀ w0 F0,W P ⟨w0,F0,N,fun _=>False,0,G0,[]⟩ c (St.init args) (QFin P fn ⟨w0,F0,N,fun _=>False,0,G0,[]⟩ res)):Ctr P f args res:=by
 intro w F vs hF hR
 subst hN
 refine calls_of_wp hf hb ?_
 have hsz:vs.toArray.size=args.length:=by simpa using hR.1
 have h1:=h w F ⟨F,fun _=>0,fun _=>0,fun _=>undef,fun _ _=>False⟩ { tmps:=vs.toArray++Array.replicate (fn.ntmps - vs.toArray.size) undef,defers:=[] } w
  ⟨by simp;have:=hR.1;omega,⟨rfl,Nat.le_refl _,fun k hk=>absurd hk (Nat.not_lt_zero k)⟩,fun i av hx=>by
   obtain ⟨_,h2⟩:=look_number args 0 i av hx
   simp only [Nat.sub_zero] at h2
   have hi:i < args.length:=(List.getElem?_eq_some_iff.1 h2).1
   have hv:i < vs.length:=by rw [hR.1];exact hi
   refine ⟨by show i < fn.ntmps;omega,hp i av h2,.pu _ _ (hR.2 i av _ h2 ?_)⟩
   simp [Array.getD_eq_getD_getElem?,Array.getElem?_append_left,hv],
   Kept.refl _ _,hF,fun _ _ h=>h,fun _ _ h=>.inl h,(fun k o h=>by cases h),(fun k o x h=>by cases h),(fun k o k' o' x h=>by cases h),(fun k o x p u h=>by cases h)⟩
 refine wp_mono h1 fun e a w' ⟨σ,G,⟨he,hfin⟩,ok⟩=>?_
 obtain ⟨v,F',hr,hle,hfw,hnew,hres⟩:=hfin G a w' ok
 rcases he with rfl|rfl
 ·exact ⟨ok.df.1,v,hr,v,F',rfl,ok.bel.to_below (fun _ h=>h),fun p u x=>hle p u (ok.f0 p u x),hfw,fun p u x=>(hnew p u x).elim (fun y=>(ok.f1 p u y).elim .inl fun z=>.inr (z.elim id fun h=>h.elim)) fun z=>.inr (z.elim id fun h=>h.elim),hres⟩
 ·exact ⟨ok.df.1,v,hr,v,F',rfl,ok.bel.to_below (fun _ h=>h),fun p u x=>hle p u (ok.f0 p u x),hfw,fun p u x=>(hnew p u x).elim (fun y=>(ok.f1 p u y).elim .inl fun z=>.inr (z.elim id fun h=>h.elim)) fun z=>.inr (z.elim id fun h=>h.elim),hres⟩
theorem Bd.rp {G:Gh} {av:AV} {v:Value} (b:Bd 0 av)(r:R G av v):RP G.F av v:=by
 induction r with
 | pu _ _ h=>exact h
 | pt k i j p=>cases b with|pt _ _ _ h=>exact absurd h zqo
 | sl k=>cases b with|sl _ h=>exact absurd h zqo
 | ag l cs h1 _ ih=>cases b with|ag _ hb=>exact .ag l cs h1 fun i av u x y=>ih i av u x y (hb i av x)
 | tu l cs h1 _ ih=>cases b with|tu _ hb=>exact .tu l cs h1 fun i av u x y=>ih i av u x y (hb i av x)
 | fn f l cs h1 _ ih=>cases b with|fn _ _ hb=>exact .fn f l cs h1 fun i av u x y=>ih i av u x y (hb i av x)
theorem Fin.one {P:Program} {fn:Func} {C:Cx} {σ:St} {t:Tmp} {res:AV} (h:fn.results=#[.tmp t])(ht:look t σ.t=some res)(hb:Bd 0 res):Fin P fn C σ res:=fun G a w ok =>
 ⟨a.tmps.getD t undef,G.F,results_tmp h _ _ _,fun _ _ h=>h,ok.fw,fun _ _ h=>.inl h,hb.rp (ok.tm t _ ht).2.2⟩
theorem Fin.two {P:Program} {fn:Func} {C:Cx} {σ:St} {t u:Tmp} {r1 r2:AV} (h:fn.results=#[.tmp t,.tmp u])(h1:look t σ.t=some r1)(h2:look u σ.t=some r2)(b1:Bd 0 r1)(b2:Bd 0 r2):Fin P fn C σ (.tu [r1,r2]):=fun G a w ok =>
 ⟨.tuple #[a.tmps.getD t undef,a.tmps.getD u undef],G.F,results_tmp2 h _ _ _,fun _ _ h=>h,ok.fw,fun _ _ h=>.inl h,.tu _ _ rfl fun i av x ha hx=>by
  match i with
  | 0=>cases ha;cases hx;exact b1.rp (ok.tm t _ h1).2.2
  | 1=>cases ha;cases hx;exact b2.rp (ok.tm u _ h2).2.2
  | n+2=>simp at ha⟩
end
section
open Go.RowKit
section
variable {P:Program} {C:Cx} {σ σ':St} {o:Oper} {d:Tmp}
def WV (P:Program)(C:Cx)(o:Oper)(σ:St)(av:AV):Prop :=
 ∀ G a w,Ok C σ G a w→∀ (N:Act→World→Prop)(Q':Exit→Act→World→Prop),
  (∀ v G' w',(∀ σ'' a'',Ok C σ'' G a'' w→Ok C σ'' G' a'' w')→R G' av v→Bd σ.nk av→N (a.put o.dst v) w')→o.wp P a w N Q'
theorem WO.of_wv {av:AV} (hds:o.dst=some d)(hd:Nat.blt d C.N=true)(h:WV P C o σ av):WO P C o σ (σ.put d av):=fun G a w ok N Q' hN =>
 h G a w ok N Q' fun v G' w' hk hr hb=>by
  rw [hds]
  exact hN G' _ w' ((hk σ a ok).set (d:=some d) hr hb fun x hx=>by cases hx;exact of_blt hd)
theorem WL.opv {ops:Array Oper} {rest:List Oper} {Q:Exit→St→Prop} {av:AV} (hg:o.guard=none)(hds:o.dst=some d)(hd:Nat.blt d C.N=true)(h:WV P C o σ av)(k:WL P C ops rest (σ.put d av) Q):WL P C ops (o::rest) σ Q :=
 WL.op hg (WO.of_wv hds hd h) k
theorem WV.val {av:AV} (hb:∀ G a w,Ok C σ G a w→Bd σ.nk av)(h:∀ G a w,Ok C σ G a w→∃ v,(execOp a.eval o).run P w=.ok (.value v) w∧R G av v):WV P C o σ av:=by
 intro G a w ok N Q' hN
 obtain⟨v,h1,h2⟩:=h G a w ok
 unfold Oper.wp
 rw [h1]
 exact hN v G w (fun _ _ h=>h) h2 (hb G a w ok)
theorem WV.sc {v:Value} (h:∀ G a w,Ok C σ G a w→(execOp a.eval o).run P w=.ok (.value v) w):WV P C o σ (.sc v) :=
 WV.val (fun _ _ _ _=>.sc v) fun G a w ok=>⟨v,h G a w ok,.pu _ _ (.sc v)⟩
theorem WV.move {x:Operand} {av:AV} (ho:o.op=.move x)(hx:σ.ev x=some av):WV P C o σ av :=
 WV.val (fun G a w ok=>(ok.evr hx).1) fun G a w ok=>⟨a.eval x,by unfold execOp;simp only [ho];rfl,(ok.evr hx).2⟩
theorem WV.assign {x:Operand} {av:AV} (ho:o.op=.assign x)(hx:σ.ev x=some av):WV P C o σ av :=
 WV.val (fun G a w ok=>(ok.evr hx).1) fun G a w ok=>⟨a.eval x,by unfold execOp;simp only [ho];rfl,(ok.evr hx).2⟩
theorem WV.pickT {c x y:Operand} {av:AV} (ho:o.op=.pick c x y)(hc:σ.ev c=some (.sc (.bool true)))(hx:σ.ev x=some av):WV P C o σ av :=
 WV.val (fun G a w ok=>(ok.evr hx).1) fun G a w ok=>⟨a.eval x,by unfold execOp;simp [ho,ok.evs hc,asBool],(ok.evr hx).2⟩
theorem WV.pickF {c x y:Operand} {av:AV} (ho:o.op=.pick c x y)(hc:σ.ev c=some (.sc (.bool false)))(hy:σ.ev y=some av):WV P C o σ av :=
 WV.val (fun G a w ok=>(ok.evr hy).1) fun G a w ok=>⟨a.eval y,by unfold execOp;simp [ho,ok.evs hc,asBool],(ok.evr hy).2⟩
theorem WV.pickS {c x y:Operand} {b:Bool} {u v:Value} (ho:o.op=.pick c x y)(hc:σ.ev c=some (.sc (.bool b)))(hx:σ.ev x=some (.sc u))(hy:σ.ev y=some (.sc v)):WV P C o σ (.sc (if b=true then u else v)) :=
 WV.sc fun G a w ok=>by unfold execOp;cases b<;>simp [ho,ok.evs hc,ok.evs hx,ok.evs hy,asBool]
def I64(z:Int):Prop:=-9223372036854775808≤z∧z<9223372036854775808
theorem I64.wrap {z:Int} (h:I64 z):IntKind.i64.wrap z=z:=Go.IntWalk.i64_in z ⟨h.1,by have:=h.2;omega⟩
theorem WV.add {T Ty:TypeId} {x y:Operand} {m n:Int} (ho:o.op=.binOp .add T x y Ty)(hx:σ.ev x=some (.sc (.int .i64 m)))(hy:σ.ev y=some (.sc (.int .i64 n)))(hb:I64 (m+n)):WV P C o σ (.sc (.int .i64 (m+n))) :=
 WV.sc fun G a w ok=>by unfold execOp;simp [ho,ok.evs hx,ok.evs hy,eqGuard,binOp,Op.intArith,hb.wrap]
theorem WV.sub {T Ty:TypeId} {x y:Operand} {m n:Int} (ho:o.op=.binOp .sub T x y Ty)(hx:σ.ev x=some (.sc (.int .i64 m)))(hy:σ.ev y=some (.sc (.int .i64 n)))(hb:I64 (m-n)):WV P C o σ (.sc (.int .i64 (m-n))) :=
 WV.sc fun G a w ok=>by unfold execOp;simp [ho,ok.evs hx,ok.evs hy,eqGuard,binOp,Op.intArith,hb.wrap]
theorem WV.mul {T Ty:TypeId} {x y:Operand} {m n:Int} (ho:o.op=.binOp .mul T x y Ty)(hx:σ.ev x=some (.sc (.int .i64 m)))(hy:σ.ev y=some (.sc (.int .i64 n)))(hb:I64 (m*n)):WV P C o σ (.sc (.int .i64 (m*n))) :=
 WV.sc fun G a w ok=>by unfold execOp;simp [ho,ok.evs hx,ok.evs hy,eqGuard,binOp,Op.intArith,hb.wrap]
theorem WV.lss {T Ty:TypeId} {x y:Operand} {k:IntKind} {m n:Int} (ho:o.op=.binOp .lss T x y Ty)(hx:σ.ev x=some (.sc (.int k m)))(hy:σ.ev y=some (.sc (.int k n))):WV P C o σ (.sc (.bool (decide (m<n)))) :=
 WV.sc fun G a w ok=>by unfold execOp;simp [ho,ok.evs hx,ok.evs hy,eqGuard,binOp,Op.intCmp]
theorem WV.leq {T Ty:TypeId} {x y:Operand} {k:IntKind} {m n:Int} (ho:o.op=.binOp .leq T x y Ty)(hx:σ.ev x=some (.sc (.int k m)))(hy:σ.ev y=some (.sc (.int k n))):WV P C o σ (.sc (.bool (decide (m≤n)))) :=
 WV.sc fun G a w ok=>by unfold execOp;simp [ho,ok.evs hx,ok.evs hy,eqGuard,binOp,Op.intCmp]
theorem WV.gtr {T Ty:TypeId} {x y:Operand} {k:IntKind} {m n:Int} (ho:o.op=.binOp .gtr T x y Ty)(hx:σ.ev x=some (.sc (.int k m)))(hy:σ.ev y=some (.sc (.int k n))):WV P C o σ (.sc (.bool (decide (n<m)))) :=
 WV.sc fun G a w ok=>by unfold execOp;simp [ho,ok.evs hx,ok.evs hy,eqGuard,binOp,Op.intCmp]
theorem WV.geq {T Ty:TypeId} {x y:Operand} {k:IntKind} {m n:Int} (ho:o.op=.binOp .geq T x y Ty)(hx:σ.ev x=some (.sc (.int k m)))(hy:σ.ev y=some (.sc (.int k n))):WV P C o σ (.sc (.bool (decide (n≤m)))) :=
 WV.sc fun G a w ok=>by unfold execOp;simp [ho,ok.evs hx,ok.evs hy,eqGuard,binOp,Op.intCmp]
theorem WV.eql {T Ty:TypeId} {x y:Operand} {k:IntKind} {m n:Int} (ho:o.op=.binOp .eql T x y Ty)(hx:σ.ev x=some (.sc (.int k m)))(hy:σ.ev y=some (.sc (.int k n))):WV P C o σ (.sc (.bool (decide (m=n)))) :=
 WV.sc fun G a w ok=>by unfold execOp;simp [ho,ok.evs hx,ok.evs hy,eqGuard,binOp,Op.intCmp];rfl
theorem WV.neq {T Ty:TypeId} {x y:Operand} {k:IntKind} {m n:Int} (ho:o.op=.binOp .neq T x y Ty)(hx:σ.ev x=some (.sc (.int k m)))(hy:σ.ev y=some (.sc (.int k n))):WV P C o σ (.sc (.bool (!decide (m=n)))) :=
 WV.sc fun G a w ok=>by unfold execOp;simp [ho,ok.evs hx,ok.evs hy,eqGuard,binOp,Op.intCmp];rfl
theorem WV.not {T:TypeId} {x:Operand} {b:Bool} (ho:o.op=.unOp .not T x)(hx:σ.ev x=some (.sc (.bool b))):WV P C o σ (.sc (.bool (!b))) :=
 WV.sc fun G a w ok=>by unfold execOp;simp [ho,ok.evs hx,Op.unary]
theorem WV.beq {T Ty:TypeId} {x y:Operand} {b c:Bool} (ho:o.op=.binOp .eql T x y Ty)(hT:P.underlying T=some .bool)(hx:σ.ev x=some (.sc (.bool b)))(hy:σ.ev y=some (.sc (.bool c))):WV P C o σ (.sc (.bool (b == c))) :=
 WV.sc fun G a w ok=>by unfold execOp;simp [ho,ok.evs hx,ok.evs hy,eqGuard,binOp,run_equal_bool w T b c hT]
theorem WV.bne {T Ty:TypeId} {x y:Operand} {b c:Bool} (ho:o.op=.binOp .neq T x y Ty)(hT:P.underlying T=some .bool)(hx:σ.ev x=some (.sc (.bool b)))(hy:σ.ev y=some (.sc (.bool c))):WV P C o σ (.sc (.bool (!(b == c)))) :=
 WV.sc fun G a w ok=>by unfold execOp;simp [ho,ok.evs hx,ok.evs hy,eqGuard,binOp,run_equal_bool w T b c hT]
def scs:List AV→Option (List Value)
 | []=>some []
 | .sc v::r=>(scs r).map (v::·)
 | _=>none
theorem scs_of {G:Gh}:∀ {l:List AV} {xs:List Value},scs l=some xs→∀ {cs:List Value},cs.length=l.length→(∀ (i:Nat) av u,l[i]?=some av→cs[i]?=some u→R G av u)→cs=xs:=by
 intro l
 induction l with
 | nil=>intro xs h cs hl _;cases h;exact List.eq_nil_of_length_eq_zero hl
 | cons a r ih =>
  intro xs h cs hl hc
  cases a with
  | sc v =>
   cases hr:scs r with
   | none=>simp [scs,hr] at h
   | some ys =>
    simp [scs,hr] at h
    subst h
    cases cs with
    | nil=>simp at hl
    | cons u us =>
     have h0:=(hc 0 (.sc v) u rfl rfl).sc_eq
     have:=ih hr (cs:=us) (by simpa using hl) (fun i av x p q=>hc (i+1) av x (by simpa using p) (by simpa using q))
     rw [h0,this]
  | _=>simp [scs] at h
theorem Ok.agg {G:Gh} {a:Act} {w:World} (ok:Ok C σ G a w) {x:Operand} {l:List AV} {xs:List Value} (hx:σ.ev x=some (.ag l)) (hs:scs l=some xs):a.eval x=.agg xs.toArray:=by
 obtain ⟨cs,e,h1,h2⟩:=(ok.evr hx).2.ag_of
 rw [e,← scs_of hs (cs:=cs.toList) (by simpa using h1) (fun i av u p q=>h2 i av u p (by simpa using q))]
theorem WV.ane {T Ty:TypeId} {x y:Operand} {l m:List AV} {xs ys:List Value} {b:Bool} (ho:o.op=.binOp .neq T x y Ty) (hx:σ.ev x=some (.ag l)) (h1:scs l=some xs) (hy:σ.ev y=some (.ag m)) (h2:scs m=some ys)
  (hg:P.eqGuardType P.depth T=false) (he:∀ w,(Op.equalIn 10000 T (.agg xs.toArray) (.agg ys.toArray)).run P w=.ok b w):WV P C o σ (.sc (.bool (!b))) :=
 WV.sc fun G a w ok=>by unfold execOp;simp [ho,ok.agg hx h1,ok.agg hy h2,run_eqGuard_agg w _ T x y _ _ hg,run_neq_struct,he]
theorem WV.seq_ {T Ty:TypeId} {x y:Operand} {s t:List UInt8} (ho:o.op=.binOp .eql T x y Ty)(hx:σ.ev x=some (.sc (.string (bs s))))(hy:σ.ev y=some (.sc (.string (bs t)))):WV P C o σ (.sc (.bool (s == t))) :=
 WV.sc fun G a w ok=>by unfold execOp;simp [ho,ok.evs hx,ok.evs hy,eqGuard,binOp,Op.stringOp,bs_toList]
theorem WV.sne {T Ty:TypeId} {x y:Operand} {s t:List UInt8} (ho:o.op=.binOp .neq T x y Ty)(hx:σ.ev x=some (.sc (.string (bs s))))(hy:σ.ev y=some (.sc (.string (bs t)))):WV P C o σ (.sc (.bool (!(s == t)))) :=
 WV.sc fun G a w ok=>by unfold execOp;simp [ho,ok.evs hx,ok.evs hy,eqGuard,binOp,Op.stringOp,bs_toList]
theorem WV.cat {T Ty:TypeId} {x y:Operand} {s t:List UInt8} (ho:o.op=.binOp .add T x y Ty)(hx:σ.ev x=some (.sc (.string (bs s))))(hy:σ.ev y=some (.sc (.string (bs t))))(hl:s.length+t.length<9223372036854775808):WV P C o σ (.sc (.string (bs (s++t)))) :=
 WV.sc fun G a w ok=>by
  have h1:¬ ((((bs s).size+(bs t).size:Nat):Int) > IntKind.i64.max):=by
   rw [bs_size,bs_size]
   have:IntKind.i64.max=9223372036854775807:=by decide
   rw [this];omega
  unfold execOp
  simp only [ho,ok.evs hx,ok.evs hy,eqGuard,binOp,Op.stringOp,if_neg h1]
  simp [bs_append]
theorem WV.extract {x:Operand} {i:Nat} {l:List AV} {av:AV} (ho:o.op=.extract x i)(hx:σ.ev x=some (.tu l))(hi:l[i]?=some av):WV P C o σ av :=
 WV.val (fun G a w ok=>by cases (ok.evr hx).1 with|tu _ h=>exact h i av hi) fun G a w ok=>by
  obtain⟨cs,e,h1,h2⟩:=(ok.evr hx).2.tu_of
  have hlt:i<cs.size:=by rw [h1];exact (List.getElem?_eq_some_iff.1 hi).1
  refine⟨cs[i],?_,h2 i av _ hi (Array.getElem?_eq_getElem hlt)⟩
  unfold execOp
  simp [ho,e,Instr.extract,Array.getElem?_eq_getElem hlt]
theorem WV.lenL {x:Operand} {T e:TypeId} {n:Nat} {rows:List (List AV)} (ho:o.op=.call { callee:=.builtin .len,args:=#[x],argTypes:=#[T] })(hT:P.underlying T=some (.slice e))(hx:σ.ev x=some (.ls n rows)) {m:Nat} (hm:rows.length=m):WV P C o σ (.sc (.int .i64 m)) :=
 WV.sc fun G a w ok=>by
  obtain⟨A,cap,ad,u,e,_⟩:=(ok.evr hx).2.pu_of.ls_of
  subst hm
  unfold execOp
  simp [ho,resolve,invoke,builtin,e,Builtin.len_,run_underlying hT,goInt]
theorem RowIs.len {w:World} {T n:Nat} {rows:List (List AV)} {v:Value} {φ:Nat→Prop} {X:Nat→Nat→(Nat→Prop)→AV→Value→Prop} (h:RowIs w T n rows v φ X):∃ A c,v=.slice A rows.length c:=by
 obtain⟨_,vs,Φ,h4,h5,_⟩:=h
 rcases h4.2 with⟨e,e2⟩|⟨g,cap,cur,e,_⟩
 ·exact⟨none,0,by rw [e,← h5,e2]⟩
 ·exact⟨_,cap,by rw [e,h5]⟩
def AO.rows?:AO→Option (List (List AV))
 | .row _ _ rows=>some rows
 | .rwn _ _ rows=>some rows
 | .rof _ _ rows _ _ _=>some rows
 | .rwo _ _ rows _ _ _=>some rows
 | _=>none
theorem ObAt.len {G:Gh} {w:World} {k:Nat} {ob:AO} {rows:List (List AV)} (h:ObAt G w k ob)(hr:ob.rows?=some rows):∃ A c,G.h k=.slice A rows.length c:=by
 cases ob with
 | row T n rs=>cases hr;exact h.2.2.len
 | rwn T n rs=>cases hr;exact h.2.2.len
 | rof T n rs hi hj y=>cases hr;exact h.2.2.len
 | rwo T n rs hi hj y=>cases hr;exact h.2.2.len
 | _=>cases hr
theorem WV.lenS {x:Operand} {T e:TypeId} {k:Nat} {ob:AO} {rows:List (List AV)} (ho:o.op=.call { callee:=.builtin .len,args:=#[x],argTypes:=#[T] })(hT:P.underlying T=some (.slice e))(hx:σ.ev x=some (.sl k))(hk:look k σ.M=some ob)(hr:ob.rows?=some rows) {m:Nat} (hm:rows.length=m):WV P C o σ (.sc (.int .i64 m)) :=
 WV.sc fun G a w ok=>by
  have e:=(ok.evr hx).2.sl_of.1
  obtain⟨A,c,e2⟩:=(ok.ob k _ hk).2.2.len hr
  rw [e2]at e
  subst hm
  unfold execOp
  simp [ho,resolve,invoke,builtin,e,Builtin.len_,run_underlying hT,goInt]
theorem WV.lenN {x:Operand} {T e:TypeId} {A:Option Addr} {m c:Nat} (ho:o.op=.call { callee:=.builtin .len,args:=#[x],argTypes:=#[T] })(hT:P.underlying T=some (.slice e))(hx:σ.ev x=some (.sc (.slice A m c))):WV P C o σ (.sc (.int .i64 m)) :=
 WV.sc fun G a w ok=>by
  unfold execOp
  simp [ho,resolve,invoke,builtin,ok.evs hx,Builtin.len_,run_underlying hT,goInt]
theorem WV.lenB {x:Operand} {T:TypeId} {s:List UInt8} (ho:o.op=.call { callee:=.builtin .len,args:=#[x],argTypes:=#[T] })(hT:P.underlying T=some .string)(hx:σ.ev x=some (.sc (.string (bs s)))):WV P C o σ (.sc (.int .i64 s.length)) :=
 WV.sc fun G a w ok=>by
  unfold execOp
  simp [ho,resolve,invoke,builtin,ok.evs hx,Builtin.len_,run_underlying hT,goInt,bs_size]
theorem add_ptr {b j:Nat} (p:Addr)(h1:p.block=b)(h3:p.spot=none):(p.add j).block=b∧(p.add j).off=p.off+j∧(p.add j).spot=none:=by
 unfold Addr.add
 by_cases e:j=0
 ·subst e;simp [h1,h3]
 ·simp [e,h1]
end
end
section
open Go.RowKit
def fldB (P:Program)(T i:Nat):Option Nat :=
 match P.underlying T with
 | some (.struct fs) =>
  match fs[i]? with
  | some f=>if P.cellsOf f.type=0 then none else some f.offset
  | none=>none
 | _=>none
def aggB (P:Program)(T:TypeId):Option Bool :=
 match P.underlying T with
 | some (.struct _)|some (.array _ _)=>some true
 | some _=>some false
 | none=>none
def sizeB (P:Program)(T:TypeId):Option Nat:=(P.info? T).map (·.size)
section
variable {P:Program} {C:Cx} {σ σ':St} {o:Oper} {d:Tmp}
theorem run_sizeB {T n:Nat} (h:sizeB P T=some n)(w:World):(sizeOf T).run P w=.ok n w:=by
 unfold sizeB at h
 cases hi:P.info? T with
 | none=>simp [hi]at h
 | some i =>
  simp [hi]at h
  simp [sizeOf,typeInfo,hi,h]
theorem run_aggB {T:Nat} {b:Bool} (h:aggB P T=some b)(w:World):(isAgg T).run P w=.ok b w:=by
 unfold aggB at h
 cases hu:P.underlying T with
 | none=>simp [hu]at h
 | some u =>
  unfold isAgg
  rw [Sem.run_bind,run_underlying hu w]
  cases u<;>simp_all
theorem run_fld {T i off:Nat} (h:fldB P T i=some off)(p:Addr)(w:World):(Instr.fieldAt T (.pointer (some p)) i).run P w=.ok (.pointer (some (p.add off))) w:=by
 unfold fldB at h
 cases hu:P.underlying T with
 | none=>simp [hu] at h
 | some u =>
  cases u with
  | struct fs =>
   simp only [hu] at h
   cases hf:fs[i]? with
   | none=>simp [hf] at h
   | some f =>
    simp only [hf] at h
    by_cases h0:P.cellsOf f.type=0
    ·rw [if_pos h0] at h;cases h
    ·rw [if_neg h0] at h
     cases h
     cases hq:P.info? f.type with
     | none=>exact absurd (by unfold Program.cellsOf;rw [hq];rfl) h0
     | some q =>
      have hne:q.size≠0:=by
       intro e;apply h0;unfold Program.cellsOf;rw [hq];exact e
      simp [Instr.fieldAt,Instr.sureAddr,fieldPlace,run_underlying hu,hf,sizeOf,typeInfo,hq,hne]
  | _=>simp [hu] at h
theorem WV.fieldP {T:TypeId} {x:Operand} {i off k r j:Nat} (ho:o.op=.fieldAddr T x i)(hf:fldB P T i=some off)(hx:σ.ev x=some (.pt k r j)):WV P C o σ (.pt k r (j+off)) :=
 WV.val (fun G a w ok=>by cases (ok.evr hx).1 with|pt _ _ _ h=>exact .pt _ _ _ h) fun G a w ok=>by
  obtain⟨p,e,h1,h2,h3⟩:=(ok.evr hx).2.pt_of
  obtain⟨q1,q2,q3⟩:=add_ptr (j:=off) p h1 h3
  exact⟨_,by unfold execOp;simp [ho,e,run_fld hf],.pt k r (j+off) _ q1 (by omega) q3⟩
theorem WV.fieldR {T:TypeId} {x:Operand} {i off:Nat} {cells:List AV} (ho:o.op=.fieldAddr T x i) (hf:fldB P T i=some off) (hx:σ.ev x=some (.pr cells)):WV P C o σ (.pr (cells.drop off)) :=
 WV.val (fun _ _ _ _=>.pr _) fun G a w ok=>by
  obtain ⟨p,u,e,h1,h2⟩:=(ok.evr hx).2.pr_of.pr_of
  refine ⟨.pointer (some (p.add off)),by unfold execOp;simp [ho,e,run_fld hf],.pu _ _ (.pr _ _ (fun j=>u (off+j)) (fun j av h=>?_) fun j av h=>?_)⟩
  ·rw [List.getElem?_drop] at h
   rw [add_of_add]
   exact h1 _ av h
  ·rw [List.getElem?_drop] at h
   exact h2 _ av h
theorem run_index {T e n:Nat} (hT:P.underlying T=some (.slice e)) (hn:sizeB P e=some n) (ad:Addr) (len cap:Nat) (k:IntKind) (z:Int) (h0:0≤z) (h1:z<len) (w:World) :
  (Instr.indexAt T (.slice (some ad) len cap) (.int k z)).run P w=.ok (.pointer (some (ad.add (z.toNat*n)))) w:=by
 simp [Instr.indexAt,asIntOf,run_underlying hT,h0,h1,run_sizeB hn]
theorem WV.indexL {T e n:Nat} {x y:Operand} {rows:List (List AV)} {k:IntKind} {z:Int} {r:List AV} (ho:o.op=.indexAddr T x y) (hT:P.underlying T=some (.slice e)) (hn:sizeB P e=some n)
  (hx:σ.ev x=some (.ls n rows)) (hy:σ.ev y=some (.sc (.int k z))) (h0:0≤z) (hr:rows[z.toNat]?=some r):WV P C o σ (.pr r) :=
 WV.val (fun _ _ _ _=>.pr _) fun G a w ok=>by
  obtain ⟨A,cap,ad,u,e1,h1,h2,h3,h4,_⟩:=(ok.evr hx).2.pu_of.ls_of
  have hlt:z.toNat<rows.length:=(List.getElem?_eq_some_iff.1 hr).1
  obtain rfl:=h2 zqo
  refine ⟨.pointer (some (ad.add (z.toNat*n))),by unfold execOp;simp [ho,e1,ok.evs hy,run_index hT hn ad rows.length cap k z h0 (by omega)],.pu _ _ (.pr _ _ (fun j=>u z.toNat j) (fun j av h=>?_) fun j av h=>?_)⟩
  ·rw [add_of_add];exact h3 _ r j av hr h
  ·exact h4 _ r j av hr h
theorem RowIs.base {w:World} {T n:Nat} {rows:List (List AV)} {v:Value} {φ:Nat→Prop} {b:Nat} {X:Nat→Nat→(Nat→Prop)→AV→Value→Prop} (h:RowIs w T n rows v φ X) (hg:∀ g,v.ownBlock=some g→g=b) (hp:0<rows.length):∃ c,v=.slice (some ⟨b,0,none⟩) rows.length c:=by
 obtain ⟨_,vs,Φ,h4,h5,_⟩:=h
 rcases h4.2 with⟨e,e2⟩|⟨g,cap,cur,e,_⟩
 ·omega
 ·have:=hg g (by rw [e];rfl)
  exact ⟨cap,by rw [e,h5,this]⟩
def AO.n?:AO→Option Nat
 | .row _ n _=>some n
 | .rwn _ n _=>some n
 | .rof _ n _ _ _ _=>some n
 | .rwo _ n _ _ _ _=>some n
 | _=>none
theorem ObAt.base {G:Gh} {w:World} {k n:Nat} {ob:AO} {rows:List (List AV)} (h:ObAt G w k ob) (hr:ob.rows?=some rows) (hn:ob.n?=some n) (hp:0<rows.length):G.n k=n∧∃ c,G.h k=.slice (some ⟨G.b k,0,none⟩) rows.length c:=by
 cases ob with
 | row T n rs=>cases hr;cases hn;exact ⟨h.1,h.2.2.base h.2.1 hp⟩
 | rwn T n rs=>cases hr;cases hn;exact ⟨h.1,h.2.2.base h.2.1 hp⟩
 | rof T n rs hi hj y=>cases hr;cases hn;exact ⟨h.1,h.2.2.base h.2.1 hp⟩
 | rwo T n rs hi hj y=>cases hr;cases hn;exact ⟨h.1,h.2.2.base h.2.1 hp⟩
 | _=>cases hr
theorem WV.indexS {T e n k:Nat} {ob:AO} {x y:Operand} {rows:List (List AV)} {q:IntKind} {z:Int} (ho:o.op=.indexAddr T x y) (hT:P.underlying T=some (.slice e)) (hn:sizeB P e=some n)
  (hx:σ.ev x=some (.sl k)) (hy:σ.ev y=some (.sc (.int q z))) (hk:look k σ.M=some ob) (hr:ob.rows?=some rows) (hn2:ob.n?=some n) (h0:0≤z) (h1:z < rows.length):WV P C o σ (.pt k z.toNat 0) :=
 WV.val (fun G a w ok=>.pt _ _ _ (ok.ob k _ hk).1) fun G a w ok=>by
  have e1:=(ok.evr hx).2.sl_of.1
  obtain ⟨hn3,c,e2⟩:=(ok.ob k _ hk).2.2.base hr hn2 zqo
  rw [e2] at e1
  obtain ⟨q1,q2,q3⟩:=add_ptr (j:=z.toNat*n) (⟨G.b k,0,none⟩:Addr) rfl rfl
  refine ⟨_,by unfold execOp;simp [ho,e1,ok.evs hy,run_index hT hn _ rows.length c q z h0 h1],.pt k z.toNat 0 _ q1 ?_ q3⟩
  rw [q2,hn3];simp
theorem RP.bd {F:View} {av:AV} {v:Value} (r:RP F av v)(nk:Nat):Bd nk av:=by
 induction r with
 | sc v=>exact .sc v
 | ls n rows A cap ad u _ _ _ _ _ _=>exact .ls n rows
 | pr cells p u _ _ _=>exact .pr cells
 | ag l cs h1 _ ih =>
  refine .ag l fun i x hx=>?_
  have hlt:i<cs.size:=by rw [h1];exact (List.getElem?_eq_some_iff.1 hx).1
  exact ih i x cs[i] hx (Array.getElem?_eq_getElem hlt)
 | tu l cs h1 _ ih =>
  refine .tu l fun i x hx=>?_
  have hlt:i<cs.size:=by rw [h1];exact (List.getElem?_eq_some_iff.1 hx).1
  exact ih i x cs[i] hx (Array.getElem?_eq_getElem hlt)
 | fn f l cs h1 _ ih =>
  refine .fn f l fun i x hx=>?_
  have hlt:i<cs.size:=by rw [h1];exact (List.getElem?_eq_some_iff.1 hx).1
  exact ih i x cs[i] hx (Array.getElem?_eq_getElem hlt)
def AO.from_:AO→Nat→Nat→Option (List AV)
 | .box _ cells,0,j=>some (cells.drop j)
 | .box _ _,_+1,_=>none
 | .row _ _ rows,i,j=>(rows[i]?).map (·.drop j)
 | .rwn _ _ rows,i,j=>(rows[i]?).map (·.drop j)
 | .rof _ _ _ _ _ _,_,_=>none
 | .rwo _ _ _ _ _ _,_,_=>none
 | .bld _ _ _,_,_=>none
 | .opq _,_,_=>none
theorem addr_eq {p:Addr} {b f:Nat} (h1:p.block=b)(h2:p.off=f)(h3:p.spot=none):p =⟨b,f,none⟩:=by
 cases p;simp_all
theorem add_flat(b f j:Nat):(⟨b,f,none⟩:Addr).add j =⟨b,f+j,none⟩:=by
 unfold Addr.add
 by_cases e:j=0<;>simp [e]
theorem RowIs.cell_at {w:World} {T n:Nat} {rows:List (List AV)} {v:Value} {φ:Nat→Prop} {b:Nat} {X:Nat→Nat→(Nat→Prop)→AV→Value→Prop} (h:RowIs w T n rows v φ X) (hg:∀ g,v.ownBlock=some g→g=b) {i j:Nat} {r:List AV} {av:AV} (hr:rows[i]?=some r) (hm:r[j]?=some av) :
  ∃ u,w.cell? ⟨b,i*n+j,none⟩=some u∧∃ ψ,X i j ψ av u:=by
 have hb:=h.base hg (by have:=(List.getElem?_eq_some_iff.1 hr).1;omega)
 obtain ⟨hrl,vs,Φ,h4,h5,h7,_,_,_,h8,h6⟩:=h
 have hi:i<rows.length:=(List.getElem?_eq_some_iff.1 hr).1
 have hv:vs[i]?=some vs[i]:=List.getElem?_eq_getElem (by omega)
 have e1:=h8 i r _ hr hv
 have hj:j<vs[i].length:=by rw [e1];exact (List.getElem?_eq_some_iff.1 hm).1
 have hvl:∀ r∈vs,r.length=n:=by
  intro r' hr'
  obtain ⟨q,hq,rfl⟩:=List.getElem_of_mem hr'
  have:=h8 q rows[q] vs[q] (List.getElem?_eq_getElem (by omega)) (List.getElem?_eq_getElem hq)
  rw [this];exact hrl _ (List.getElem_mem _)
 obtain ⟨A,c,hA,hrd,hat,_⟩:=rd_of_own h4 hvl rfl rfl
 obtain ⟨c2,hb2⟩:=hb
 rw [hb2] at hA
 injection hA with hA _ _
 subst hA
 obtain ⟨ad,had,_,hc⟩:=Rd.at_ (k:=i) hrd zqo
 injection had with had
 subst had
 refine ⟨_,?_,Φ i j,h6 i r _ j av _ hr hv hm (List.getElem?_eq_getElem hj)⟩
 have:=hc j _ (List.getElem?_eq_getElem hj)
 rw [add_flat,Nat.zero_add] at this
 exact this
theorem Ok.cell {G:Gh} {a:Act} {w:World} (ok:Ok C σ G a w) {k i j m:Nat} {ob:AO} {l:List AV} {av:AV} {p:Addr} (hk:look k σ.M=some ob)(hf:ob.from_ i j=some l)(hm:l[m]?=some av)
  (h1:p.block=G.b k)(h2:p.off=i*G.n k+j)(h3:p.spot=none)(ho:av.own=false):∃ u,w.cell? (p.add m)=some u∧R G av u∧Bd σ.nk av:=by
 obtain rfl:=addr_eq h1 h2 h3
 have h:=ok.ob k ob hk
 cases ob with
 | box T cells =>
  cases i with
  | succ i=>simp [AO.from_]at hf
  | zero =>
   simp only [AO.from_,Option.some.injEq]at hf
   subst hf
   rw [List.getElem?_drop]at hm
   obtain⟨_,cs,Φ,hb,hs,_,_,hc⟩:=h.2.2
   have hlt:j+m<cs.size:=by rw [hs];exact (List.getElem?_eq_some_iff.1 hm).1
   refine⟨cs[j+m],?_,(hc _ _ _ hm (Array.getElem?_eq_getElem hlt)).r ho,h.2.1 _ _ hm⟩
   rw [add_flat,Nat.zero_mul,Nat.zero_add,hb.cell]
   exact Array.getElem?_eq_getElem hlt
 | row T n rows =>
  simp only [AO.from_]at hf
  cases hr:rows[i]? with
  | none=>simp [hr]at hf
  | some r =>
   simp [hr]at hf
   subst hf
   rw [List.getElem?_drop]at hm
   obtain⟨hn,hg,hR⟩:=h.2.2
   obtain⟨u,hu,Ψ,hX⟩:=hR.cell_at hg hr hm
   have hp:RP G.F av u:=hX
   refine⟨u,?_,.pu _ _ hp,hp.bd _⟩
   rw [add_flat,hn,Nat.add_assoc];exact hu
 | rwn T n rows =>
  simp only [AO.from_]at hf
  cases hr:rows[i]? with
  | none=>simp [hr]at hf
  | some r =>
   simp [hr]at hf
   subst hf
   rw [List.getElem?_drop]at hm
   obtain⟨hn,hg,hR⟩:=h.2.2
   obtain⟨u,hu,Ψ,hX⟩:=hR.cell_at hg hr hm
   have hp:=OW.p hX ho
   refine⟨u,?_,.pu _ _ hp,hp.bd _⟩
   rw [add_flat,hn,Nat.add_assoc];exact hu
 | rof T n rows hi hj y=>cases hf
 | rwo T n rows hi hj y=>cases hf
 | bld T e l=>cases hf
 | opq q=>cases hf
theorem run_load1 {T:TypeId} {p:Addr} {u:Value} {w:World} (hT:aggB P T=some false)(h:w.cell? p=some u):(Instr.loadAt T (.pointer (some p))).run P w=.ok u w:=by
 simp [Instr.loadAt,Instr.sureAddr,loadVar,run_aggB hT,h]
theorem run_loadN {T n:Nat} {p:Addr} {cs:List Value} {w:World} (hT:aggB P T=some true)(hn:sizeB P T=some n)(hl:cs.length=n)(h:∀ j v,cs[j]?=some v→w.cell? (p.add j)=some v):(Instr.loadAt T (.pointer (some p))).run P w=.ok (.agg cs.toArray) w:=by
 have:=run_loadCells_list (P:=P) w p cs h
 rw [hl] at this
 simp [Instr.loadAt,Instr.sureAddr,loadVar,run_aggB hT,run_sizeB hn,this]
theorem add_zero'(p:Addr):p.add 0=p:=by simp [Addr.add]
theorem WV.load1 {T:TypeId} {x:Operand} {k i j:Nat} {ob:AO} {l:List AV} {av:AV} (ho:o.op=.load T x)(hT:aggB P T=some false)
  (hx:σ.ev x=some (.pt k i j))(hk:look k σ.M=some ob)(hf:ob.from_ i j=some l)(hm:l[0]?=some av)(hw:av.own=false):WV P C o σ av :=
 WV.val (fun G a w ok=>by
  obtain⟨p,e,h1,h2,h3⟩:=(ok.evr hx).2.pt_of
  obtain⟨u,_,_,hb⟩:=ok.cell hk hf hm h1 h2 h3 hw
  exact hb) fun G a w ok=>by
  obtain⟨p,e,h1,h2,h3⟩:=(ok.evr hx).2.pt_of
  obtain⟨u,hu,hr,_⟩:=ok.cell hk hf hm h1 h2 h3 hw
  rw [add_zero'] at hu
  exact⟨u,by unfold execOp;simp [ho,e,run_load1 hT hu],hr⟩
theorem WV.load1R {T:TypeId} {x:Operand} {cells:List AV} {av:AV} (ho:o.op=.load T x)(hT:aggB P T=some false)
  (hx:σ.ev x=some (.pr cells))(hm:cells[0]?=some av):WV P C o σ av :=
 WV.val (fun G a w ok=>by
  obtain⟨p,u,e,h1,h2⟩:=(ok.evr hx).2.pr_of.pr_of
  exact (h2 0 av hm).bd _) fun G a w ok=>by
  obtain⟨p,u,e,h1,h2⟩:=(ok.evr hx).2.pr_of.pr_of
  have hu:=ok.fw _ _ (h1 0 av hm).1
  rw [add_zero'] at hu
  exact⟨u 0,by unfold execOp;simp [ho,e,run_load1 hT hu],.pu _ _ (h2 0 av hm)⟩
theorem list_ofT {α:Type} (Q:Nat→α→Prop):∀ (n:Nat),(∀ j,j<n→∃ u,Q j u)→∃ l:List α,l.length=n∧∀ j u,l[j]?=some u→Q j u:=by
 intro n
 induction n with
 | zero=>intro _;exact⟨[],rfl,fun j u h=>by simp at h⟩
 | succ n ih =>
  intro h
  obtain⟨l,hl,hq⟩:=ih fun j hj=>h j zqo
  obtain⟨u,hu⟩:=h n zqo
  refine⟨l++[u],by simp [hl],fun j v hv=>?_⟩
  by_cases e:j<n
  ·rw [List.getElem?_append_left (by omega)]at hv;exact hq j v hv
  ·rw [List.getElem?_append_right (by omega)]at hv
   have hj:j-l.length<[u].length:=(List.getElem?_eq_some_iff.1 hv).1
   have:j=n:=by simp at hj;omega
   subst this
   simp [hl]at hv
   rw [← hv];exact hu
theorem WV.loadN {T n:Nat} {x:Operand} {k i j:Nat} {ob:AO} {l l':List AV} (ho:o.op=.load T x)(hT:aggB P T=some true)(hn:sizeB P T=some n)
  (hx:σ.ev x=some (.pt k i j))(hk:look k σ.M=some ob)(hf:ob.from_ i j=some l)(hl:l.take n=l')(hlen:l'.length=n)(hw:l'.all (fun av=>!av.own)=true):WV P C o σ (.ag l') :=
 have hw':∀ (m:Nat) av,l'[m]?=some av→av.own=false:=fun m av h=>by simpa using List.all_eq_true.1 hw av (List.mem_of_getElem? h)
 have hle:n≤l.length:=by rw [← hl,List.length_take] at hlen;omega
 have hat:∀ m av,l'[m]?=some av→l[m]?=some av:=fun m av h=>by
  have hlt:m<n:=by rw [← hlen];exact (List.getElem?_eq_some_iff.1 h).1
  rw [← hl,List.getElem?_take_of_lt hlt] at h;exact h
 WV.val (fun G a w ok=>by
  obtain⟨p,e,h1,h2,h3⟩:=(ok.evr hx).2.pt_of
  refine .ag _ fun m av hm=>?_
  obtain⟨u,_,_,hb⟩:=ok.cell hk hf (hat m av hm) h1 h2 h3 (hw' m av hm)
  exact hb) fun G a w ok=>by
  obtain⟨p,e,h1,h2,h3⟩:=(ok.evr hx).2.pt_of
  obtain⟨cs,hcl,hcq⟩:=list_ofT (fun m u=>w.cell? (p.add m)=some u∧∀ av,l'[m]?=some av→R G av u) n fun m hm=>by
   have hg:l'[m]?=some l'[m]:=List.getElem?_eq_getElem (by omega)
   obtain⟨u,hu,hr,_⟩:=ok.cell hk hf (hat m _ hg) h1 h2 h3 (hw' m _ hg)
   exact⟨u,hu,fun av h=>by rw [hg] at h;cases h;exact hr⟩
  refine⟨.agg cs.toArray,by unfold execOp;simp [ho,e,run_loadN hT hn hcl fun j v h=>(hcq j v h).1],.ag _ _ (by simp [hcl,hlen]) fun m av u hm hu=>(hcq m u (by simpa using hu)).2 av hm⟩
theorem WV.loadNR {T n:Nat} {x:Operand} {l l':List AV} (ho:o.op=.load T x)(hT:aggB P T=some true)(hn:sizeB P T=some n)
  (hx:σ.ev x=some (.pr l))(hl:l.take n=l')(hlen:l'.length=n):WV P C o σ (.ag l') :=
 have hat:∀ m av,l'[m]?=some av→l[m]?=some av:=fun m av h=>by
  have hlt:m<n:=by rw [← hlen];exact (List.getElem?_eq_some_iff.1 h).1
  rw [← hl,List.getElem?_take_of_lt hlt] at h;exact h
 WV.val (fun G a w ok=>by
  obtain⟨p,u,e,h1,h2⟩:=(ok.evr hx).2.pr_of.pr_of
  exact .ag _ fun m av hm=>(h2 m av (hat m av hm)).bd _) fun G a w ok=>by
  obtain⟨p,u,e,h1,h2⟩:=(ok.evr hx).2.pr_of.pr_of
  have hh:∀ (j:Nat) v,((List.range n).map u)[j]?=some v→w.cell? (p.add j)=some v:=fun j v h=>by
   have hj:j<n:=by simpa using(List.getElem?_eq_some_iff.1 h).1
   simp [hj] at h
   have hg:l'[j]?=some l'[j]:=List.getElem?_eq_getElem (by omega)
   rw [← h];exact ok.fw _ _ (h1 j _ (hat j _ hg)).1
  refine⟨.agg ((List.range n).map u).toArray,by unfold execOp;simp only [ho,e];rw [Sem.run_bind,run_loadN hT hn (by simp) hh];rfl,.ag _ _ (by simp [hlen]) fun m av v hm hv=>?_⟩
  have hj:m<n:=by rw [← hlen];exact (List.getElem?_eq_some_iff.1 hm).1
  simp [hj] at hv
  rw [← hv];exact .pu _ _ (h2 m av (hat m av hm))
end
end
section
open Go.RowKit
def St.new(σ:St)(ob:AO):St:={ σ with M:=(σ.nk,ob)::σ.M,nk:=σ.nk+1 }
def St.upd(σ:St)(k:Nat)(ob:AO):St:={ σ with M:=(k,ob)::σ.M }
def AV.cells:AV→List AV
 | .ag l=>l
 | av=>[av]
def AV.cellB:AV→Bool
 | .sc v=>v.oneCell'
 | .tu _=>false
 | .ow _ _ _=>false
 | _=>true
def AV.oneB:AV→Bool
 | .sc v=>v.oneCell'
 | .tu _=>false
 | .ag _=>false
 | .ow _ _ _=>false
 | _=>true
section
variable {P:Program} {C:Cx} {σ σ':St} {G G':Gh} {a:Act} {w w':World} {o:Oper} {d:Tmp}
theorem AO.bd_mono {nk nk':Nat} (h:nk≤nk') {ob:AO} (b:ob.bd nk):ob.bd nk':=by
 cases ob with
 | box T cells=>exact fun i av x=>(b i av x).mono h
 | row T n rows=>trivial
 | rwn T n rows=>trivial
 | rof T n rows hi hj y=>exact Bd.mono h b
 | rwo T n rows hi hj y=>exact Bd.mono h b
 | bld T e l=>trivial
 | opq q=>trivial
theorem Ok.add (ok:Ok C σ G a w) {ob:AO} (h:ObAt G w σ.nk ob) (hbd:ob.bd (σ.nk+1))
  (hown:∀ x,G.fp σ.nk x→C.may x∧x<w.heap.size∧(∀ k o,look k σ.M=some o→¬ G.fp k x)∧∀ p u,G.F p=some u→p.block≠x):Ok C (σ.new ob) G a w:=by
 have hl:∀ k o,look k (σ.new ob).M=some o→(k=σ.nk∧o=ob)∨(k≠σ.nk∧look k σ.M=some o):=fun k o hx=>by
  by_cases e:k=σ.nk
  ·subst e
   rw [show look σ.nk (σ.new ob).M=some ob from look_set_same] at hx
   cases hx
   exact .inl ⟨rfl,rfl⟩
  ·rw [show look k (σ.new ob).M=look k σ.M from look_set_other e] at hx
   exact .inr ⟨e,hx⟩
 refine ⟨ok.sz,⟨ok.df.1,Nat.le_succ_of_le ok.df.2.1,ok.df.2.2⟩,fun i av x=>⟨(ok.tm i av x).1,(ok.tm i av x).2.1.mono (Nat.le_succ _),(ok.tm i av x).2.2⟩,ok.bel,ok.fw,ok.f0,ok.f1,?_,?_,?_,?_⟩
 ·intro k o x
  rcases hl k o x with⟨rfl,rfl⟩|⟨e,y⟩
  ·exact ⟨Nat.lt_succ_self _,hbd,h⟩
  ·exact ⟨Nat.lt_succ_of_lt (ok.ob k o y).1,AO.bd_mono (Nat.le_succ _) (ok.ob k o y).2.1,(ok.ob k o y).2.2⟩
 ·intro k o x h1 h2
  rcases hl k o h1 with⟨rfl,rfl⟩|⟨e,y⟩
  ·exact ⟨(hown x h2).1,(hown x h2).2.1⟩
  ·exact ok.my k o x y h2
 ·intro k o k' o' x h1 h2 h3 h4
  rcases hl k o h1 with⟨rfl,rfl⟩|⟨e,y⟩
  ·rcases hl k' o' h2 with⟨rfl,rfl⟩|⟨e',y'⟩
   ·rfl
   ·exact absurd h4 ((hown x h3).2.2.1 k' o' y')
  ·rcases hl k' o' h2 with⟨rfl,rfl⟩|⟨e',y'⟩
   ·exact absurd h3 ((hown x h4).2.2.1 k o y)
   ·exact ok.dj k o k' o' x y y' h3 h4
 ·intro k o x p u h1 h2 h3
  rcases hl k o h1 with⟨rfl,rfl⟩|⟨e,y⟩
  ·exact (hown x h2).2.2.2 p u h3
  ·exact ok.dF k o x p u y h2 h3
def Gh.with(G:Gh)(k:Nat)(b n:Nat)(h:Value)(φ:Nat→Prop):Gh :=
 ⟨G.F,fun q=>if q=k then b else G.b q,fun q=>if q=k then n else G.n q,fun q=>if q=k then h else G.h q,fun q=>if q=k then φ else G.fp q⟩
theorem Gh.with_le (G:Gh)(k:Nat)(b n:Nat)(h:Value)(φ:Nat→Prop):G.le (G.with k b n h φ) k:=⟨fun _ _ h=>h,fun q hq=>if_neg (by omega),fun q hq=>if_neg (by omega),fun q hq=>if_neg (by omega)⟩
theorem Gh.with_fp (G:Gh)(k:Nat)(b n:Nat)(h:Value)(φ:Nat→Prop):∀ q,q<k→(G.with k b n h φ).fp q=G.fp q:=fun q hq=>if_neg (by omega)
theorem Ok.newBox (ok:Ok C σ G a w) {cells:List AV} {cs:Array Value} (T:TypeId) (hs:cs.size=cells.length) (hc:∀ (i:Nat) av u,cells[i]?=some av→cs[i]?=some u→R G av u) (hb:∀ (i:Nat) av,cells[i]?=some av→Bd σ.nk av) :
  ∃ G',G.le G' σ.nk∧G'.b σ.nk=w.heap.size∧Ok C (σ.new (.box T cells)) G' a (w.alloc (.cells cs T)):=by
 have hle:=G.with_le σ.nk w.heap.size 0 undef (fun x=>x=w.heap.size)
 have hfp:=G.with_fp σ.nk w.heap.size 0 undef (fun x=>x=w.heap.size)
 have hbl:∀ x,x<w.heap.size→(w.alloc (.cells cs T)).heap[x]?=w.heap[x]?:=fun x hx=>Below.heap_alloc w _ x hx
 have ok1:Ok C σ (G.with σ.nk w.heap.size 0 undef (fun x=>x=w.heap.size)) a (w.alloc (.cells cs T)) :=
  ok.world (S:=fun _=>False) hle hfp (Kept.below ((Below.refl _ _).alloc (Nat.le_refl _) _)) (fun _ h=>h.elim) (fun k o x h1 h2=>hbl x (ok.my k o x h1 h2).2)
   (fun p u h=>(World.cell?_of_block (hbl _ (cell_block (ok.fw p u h)))).trans (ok.fw p u h)) (fun _ _ h=>.inl h)
 have e1:(G.with σ.nk w.heap.size 0 undef (fun x=>x=w.heap.size)).b σ.nk=w.heap.size:=if_pos rfl
 have e2:(G.with σ.nk w.heap.size 0 undef (fun x=>x=w.heap.size)).fp σ.nk=fun x=>x=w.heap.size:=if_pos rfl
 refine ⟨_,hle,e1,ok1.add ⟨by rw [e1,e2],cs,fun _ _=>False,?_,hs,fun _ _ h=>h.elim,fun _ _ _ h=>h.elim,fun i av u x y=>.inl ((hc i av u x y).mono hle (hb i av x))⟩ (fun i av x=>(hb i av x).mono (Nat.le_succ _)) ?_⟩
 ·rw [e1];exact Blk.new w T cs
 ·intro x hx
  rw [e2] at hx
  obtain rfl:x=w.heap.size:=hx
  refine ⟨.inl ok.bel.size,by simp,fun k o h1 h2=>?_,fun p u h=>?_⟩
  ·rw [hfp k (ok.ob k o h1).1] at h2
   have:=(ok.my k o _ h1 h2).2
   omega
  ·have:=cell_block (ok.fw p u h)
   omega
theorem cells_of {av:AV} {v:Value} (r:R G av v)(hB:av.cellB=true):v.cells.size=av.cells.length∧∀ (i:Nat)x u,av.cells[i]?=some x→v.cells[i]?=some u→R G x u:=by
 have one:∀ (av:AV)(v:Value),R G av v→v.oneCell'=true→v.cells.size=[av].length∧∀ (i:Nat)x u,[av][i]?=some x→v.cells[i]?=some u→R G x u:=fun av v r h=>by
  have hv:v.cells=#[v]:=by cases v<;>first|rfl|cases h
  rw [hv]
  refine⟨rfl,fun i x u a b=>?_⟩
  cases i with
  | zero=>cases a;cases b;exact r
  | succ i=>simp at a
 cases av with
 | sc x =>
  have:=r.sc_eq
  subst this
  exact one _ _ r hB
 | ag l =>
  obtain⟨cs,rfl,h1,h2⟩:=r.ag_of
  exact⟨h1,h2⟩
 | tu l=>cases hB
 | ls n rows=>obtain⟨A,cap,ad,u,rfl,_⟩:=r.pu_of.ls_of;exact one _ _ r rfl
 | pr cells=>obtain⟨p,u,rfl,_⟩:=r.pr_of.pr_of;exact one _ _ r rfl
 | pt k i j=>obtain⟨p,rfl,_⟩:=r.pt_of;exact one _ _ r rfl
 | sl k=>exact one _ _ r r.sl_of.2
 | ow T n rows=>cases hB
 | fn f l=>obtain⟨cs,rfl,_⟩:=r.fn_of;exact one _ _ r rfl
theorem cells_bd {nk:Nat} {av:AV} (b:Bd nk av):∀ (i:Nat)x,av.cells[i]?=some x→Bd nk x:=by
 have one:∀ av:AV,Bd nk av→∀ (i:Nat)x,[av][i]?=some x→Bd nk x:=fun av b i x h=>by
  cases i with
  | zero=>cases h;exact b
  | succ i=>simp at h
 cases av with
 | ag l=>cases b with|ag _ h=>exact h
 | _=>exact one _ b
theorem WO.box {T:TypeId} {x:Operand} {av:AV} {l:List AV} {n:Nat} (ho:o.op=.box T x) (hds:o.dst=some d) (hd:Nat.blt d C.N=true) (hx:σ.ev x=some av) (hB:av.cellB=true) (hl:av.cells=l) (hn:σ.nk=n):WO P C o σ ((σ.new (.box T l)).put d (.pt n 0 0)):=by
 intro G a w ok N Q' hN
 obtain ⟨hb,hr⟩:=ok.evr hx
 obtain ⟨h1,h2⟩:=cells_of hr hB
 obtain ⟨G',hle,hbb,ok'⟩:=ok.newBox T h1 h2 (cells_bd hb)
 unfold Oper.wp execOp
 simp only [ho,Instr.box,newVar,newRow,Sem.run_bind,Sem.run_pure,run_newObj,Result.andThen_ok]
 show N (a.put o.dst _) _
 rw [hds]
 subst hl hn
 exact hN G' _ _ (ok'.set (d:=some d) (.pt σ.nk 0 0 _ hbb.symm (by simp) rfl) (.pt _ _ _ (Nat.lt_succ_self _)) fun x hx=>by cases hx;exact of_blt hd)
theorem WO.alloc {T:TypeId} {z:Value} {l:List AV} {n:Nat} (ho:o.op=.alloc T) (hz:(P.info? T).bind (·.zero)=some z) (hds:o.dst=some d) (hd:Nat.blt d C.N=true) (hl:z.cells.toList.map .sc=l) (hn:σ.nk=n):WO P C o σ ((σ.new (.box T l)).put d (.pt n 0 0)):=by
 intro G a w ok N Q' hN
 have hc:∀ (i:Nat) av u,l[i]?=some av→z.cells[i]?=some u→R G av u:=fun i av u x y=>by
  rw [← hl,List.getElem?_map] at x
  rw [show z.cells.toList[i]?=z.cells[i]? by simp,y] at x
  cases x
  exact .pu _ _ (.sc _)
 have hb:∀ (i:Nat) av,l[i]?=some av→Bd σ.nk av:=fun i av x=>by
  rw [← hl,List.getElem?_map] at x
  cases hq:z.cells.toList[i]? with
  | none=>simp [hq] at x
  | some u=>simp [hq] at x;rw [← x];exact .sc _
 obtain ⟨G',hle,hbb,ok'⟩:=ok.newBox (cells:=l) (cs:=z.cells) T (by rw [← hl];simp) hc hb
 cases hi:P.info? T with
 | none=>simp [hi] at hz
 | some i =>
  simp [hi] at hz
  unfold Oper.wp execOp
  simp only [ho,Instr.alloc,zeroValue,typeInfo,newVar,newRow,Sem.run_bind,Sem.run_pure,run_newObj,Result.andThen_ok,run_program,hi,hz]
  show N (a.put o.dst _) _
  rw [hds]
  subst hn
  exact hN G' _ _ (ok'.set (d:=some d) (.pt σ.nk 0 0 _ hbb.symm (by simp) rfl) (.pt _ _ _ (Nat.lt_succ_self _)) fun x hx=>by cases hx;exact of_blt hd)
end
end
section
open Go.RowKit
def putL {α:Type}:Nat→List α→List α→List α
 | 0,[],cs=>cs
 | 0,x::l,_::cs=>x::putL 0 l cs
 | j+1,l,c::cs=>c::putL j l cs
 | _,_,[]=>[]
theorem putL_eq {α:Type}:∀ (j:Nat)(l cs:List α),j+l.length≤cs.length→putL j l cs=cs.take j++l++cs.drop (j+l.length)
 | 0,[],cs,_=>by simp [putL]
 | 0,x::l,[],h=>by simp at h
 | 0,x::l,c::cs,h=>by
  have:=putL_eq 0 l cs (by simp at h ⊢;omega)
  simp [putL,this]
 | j+1,l,[],h=>by simp at h
 | j+1,l,c::cs,h=>by
  have:=putL_eq j l cs (by simp at h;omega)
  simp [putL,this,Nat.add_right_comm]
theorem putL_len {α:Type} {j:Nat} {l cs:List α} (h:j+l.length≤cs.length):(putL j l cs).length=cs.length:=by
 rw [putL_eq j l cs h];simp;omega
theorem putL_at {α:Type} {j:Nat} {l cs:List α} (h:j+l.length≤cs.length)(i:Nat):(putL j l cs)[i]?=if j≤i∧i<j+l.length then l[i-j]? else cs[i]?:=by
 rw [putL_eq j l cs h]
 by_cases h1:i<j
 ·rw [if_neg (by omega),List.append_assoc,List.getElem?_append_left (by simp;omega),List.getElem?_take_of_lt h1]
 ·by_cases h2:i<j+l.length
  ·rw [if_pos (by omega),List.getElem?_append_left (by simp;omega),List.getElem?_append_right (by simp;omega)]
   simp [Nat.min_eq_left (show j≤cs.length by omega)]
  ·rw [if_neg (by omega),List.getElem?_append_right (by simp;omega),List.getElem?_drop]
   congr 1;simp;omega
theorem putL_rel {α β:Type} (Q:α→β→Prop) {j:Nat} {l cs:List α} {m ds:List β} (h:j+l.length≤cs.length)(hm:m.length=l.length)(hd:ds.length=cs.length)
  (h1:∀ (i:Nat)x y,l[i]?=some x→m[i]?=some y→Q x y)(h2:∀ (i:Nat)x y,cs[i]?=some x→ds[i]?=some y→Q x y):∀ (i:Nat)x y,(putL j l cs)[i]?=some x→(putL j m ds)[i]?=some y→Q x y:=by
 intro i x y hx hy
 rw [putL_at h]at hx
 rw [putL_at (by omega)]at hy
 rw [hm]at hy
 by_cases e:j≤i∧i<j+l.length
 ·rw [if_pos e]at hx hy;exact h1 _ _ _ hx hy
 ·rw [if_neg e]at hx hy;exact h2 _ _ _ hx hy
theorem flat_put {n:Nat}:∀ (vs:List (List Value)),(∀ r∈vs,r.length=n)→∀ (i j:Nat) (r l:List Value),vs[i]?=some r→j+l.length≤n→(vs.set i (putL j l r)).flatten=putL (i*n+j) l vs.flatten:=by
 intro vs
 induction vs with
 | nil=>intro _ i j r l h;simp at h
 | cons v t ih =>
  intro hn i j r l h hj
  have hv:v.length=n:=hn v (by simp)
  cases i with
  | zero =>
   obtain rfl:v=r:=by simpa using h
   have hf:j+l.length≤(v++t.flatten).length:=by simp;omega
   rw [List.set_cons_zero,List.flatten_cons,List.flatten_cons,Nat.zero_mul,Nat.zero_add,putL_eq j l v (by omega),putL_eq j l _ hf]
   simp only [List.append_assoc]
   rw [List.take_append_of_le_length (by omega),List.drop_append_of_le_length (by omega)]
  | succ i =>
   have ht:∀ r∈t,r.length=n:=fun r hr=>hn r (by simp [hr])
   have h':t[i]?=some r:=by simpa using h
   have hi:i<t.length:=(List.getElem?_eq_some_iff.1 h').1
   have hfl:t.flatten.length=t.length*n:=flatten_len ht
   have hle:i*n+n≤t.length*n:=by
    have:(i+1)*n≤t.length*n:=Nat.mul_le_mul_right n hi
    rw [Nat.succ_mul] at this;exact this
   rw [List.set_cons_succ,List.flatten_cons,List.flatten_cons,ih ht i j r l h' hj,Nat.succ_mul,
    putL_eq _ l t.flatten (by rw [hfl];omega),putL_eq _ l (v++t.flatten) (by simp only [List.length_append];rw [hfl];omega)]
   have e1:List.take (i*n+n+j) v=v:=List.take_of_length_le zqo
   have e2:List.drop (i*n+n+j+l.length) v=[]:=List.drop_eq_nil_of_le zqo
   rw [List.take_append,List.drop_append,e1,e2]
   rw [show i*n+n+j-v.length=i*n+j by omega,show i*n+n+j+l.length-v.length=i*n+j+l.length by omega]
   simp
def AV.pu00:AV→Bool
 | .sc _=>true
 | .ls _ _=>true
 | .pr _=>true
 | _=>false
def AV.pu0:AV→Bool
 | .fn _ l=>l.all AV.pu00
 | av=>av.pu00
theorem pu00_bd {av:AV} (h:av.pu00=true)(nk:Nat):Bd nk av:=by
 cases av<;>first|exact .sc _|exact .ls _ _|exact .pr _|cases h
theorem pu0_own {av:AV} (h:av.pu0=true):av.own=false:=by cases av<;>first|rfl|cases h
theorem pu0_bd {av:AV} (h:av.pu0=true)(nk:Nat):Bd nk av:=by
 cases av with
 | fn f l=>exact .fn f l fun i x hx=>pu00_bd (List.all_eq_true.1 h x (List.mem_of_getElem? hx)) nk
 | sc v=>exact .sc v
 | ls n rows=>exact .ls n rows
 | pr cells=>exact .pr cells
 | _=>cases h
def AO.put:AO→Nat→Nat→List AV→Option AO
 | .box T cells,0,j,l=>bif Nat.ble (j+l.length) cells.length then some (.box T (putL j l cells)) else none
 | .box _ _,_+1,_,_=>none
 | .row T n rows,i,j,l =>
  match rows[i]? with
  | some r=>if j+l.length≤r.length∧l.all AV.pu0=true then some (.row T n (rows.set i (putL j l r))) else none
  | none=>none
 | .rwn T n rows,i,j,l =>
  match rows[i]? with
  | some r=>if j+l.length≤r.length∧l.all AV.pu0=true then some (.rwn T n (rows.set i (putL j l r))) else none
  | none=>none
 | .rof _ _ _ _ _ _,_,_,_=>none
 | .rwo _ _ _ _ _ _,_,_,_=>none
 | .bld _ _ _,_,_,_=>none
 | .opq _,_,_,_=>none
section
variable {P:Program} {C:Cx} {σ σ':St} {G G':Gh} {a:Act} {w w':World} {o:Oper} {d:Tmp}
theorem kept_setRow (w:World)(g:Nat)(cur:Array Value):Kept (fun x=>x=g) w (w.setRow g cur) :=
 ⟨rfl,rfl,rfl,by simp,fun k _ hk=>setRow_other w g k cur hk⟩
theorem Ok.write (ok:Ok C σ G a w) {k g:Nat} {ob ob':AO} (cur:Array Value) (hk:look k σ.M=some ob) (hg:G.fp k g) (hob:ObAt G (w.setRow g cur) k ob') (hbd:ob'.bd σ.nk) :
  Ok C (σ.upd k ob') G a (w.setRow g cur):=by
 have hl:∀ k' o,look k' (σ.upd k ob').M=some o→(k'=k∧o=ob')∨(k'≠k∧look k' σ.M=some o):=fun k' o hx=>by
  by_cases e:k'=k
  ·subst e
   rw [show look k' (σ.upd k' ob').M=some ob' from look_set_same] at hx
   cases hx
   exact .inl ⟨rfl,rfl⟩
  ·rw [show look k' (σ.upd k ob').M=look k' σ.M from look_set_other e] at hx
   exact .inr ⟨e,hx⟩
 have hne:∀ k' o x,k'≠k→look k' σ.M=some o→G.fp k' x→x≠g:=fun k' o x e h1 h2 h3=>by
  subst h3;exact e (ok.dj k' o k ob x h1 hk h2 hg)
 have hsz:(w.setRow g cur).heap.size=w.heap.size:=by simp
 have some_:∀ k' o,look k' (σ.upd k ob').M=some o→∃ o',look k' σ.M=some o':=fun k' o h=>by
  rcases hl k' o h with⟨rfl,_⟩|⟨_,y⟩
  ·exact ⟨ob,hk⟩
  ·exact ⟨o,y⟩
 refine ⟨ok.sz,ok.df,ok.tm,ok.bel.on (kept_setRow w g cur) (fun x hx=>by subst hx;exact (ok.my k ob x hk hg).1),fun p u h=>?_,ok.f0,ok.f1,?_,?_,?_,?_⟩
 ·rw [World.cell?_of_block (setRow_other w g p.block cur (ok.dF k ob g p u hk hg h))];exact ok.fw p u h
 ·intro k' o x
  rcases hl k' o x with⟨rfl,rfl⟩|⟨e,y⟩
  ·exact ⟨(ok.ob k' ob hk).1,hbd,hob⟩
  ·exact ⟨(ok.ob k' o y).1,(ok.ob k' o y).2.1,(ok.ob k' o y).2.2.keep (Gh.le.refl _ _) (ok.ob k' o y).1 (ok.ob k' o y).2.1 rfl fun x hx=>setRow_other w g x cur (hne k' o x e y hx)⟩
 ·intro k' o x h1 h2
  obtain ⟨o',y⟩:=some_ k' o h1
  rw [hsz]
  exact ok.my k' o' x y h2
 ·intro k1 o1 k2 o2 x h1 h2 h3 h4
  obtain ⟨o1',y1⟩:=some_ k1 o1 h1
  obtain ⟨o2',y2⟩:=some_ k2 o2 h2
  exact ok.dj k1 o1' k2 o2' x y1 y2 h3 h4
 ·intro k1 o1 x p u h1 h2 h3
  obtain ⟨o1',y1⟩:=some_ k1 o1 h1
  exact ok.dF k1 o1' x p u y1 h2 h3
theorem oneB_of {av:AV} {v:Value} (r:R G av v)(h:av.oneB=true):v.oneCell'=true:=by
 cases av with
 | sc x=>rw [r.sc_eq];exact h
 | ag l=>cases h
 | tu l=>cases h
 | ls n rows=>obtain⟨A,cap,ad,u,rfl,_⟩:=r.pu_of.ls_of;rfl
 | ow T n rows=>cases h
 | pr cells=>obtain⟨p,u,rfl,_⟩:=r.pr_of.pr_of;rfl
 | pt k i j=>obtain⟨p,rfl,_⟩:=r.pt_of;rfl
 | sl k=>exact r.sl_of.2
 | fn f l=>obtain⟨cs,rfl,_⟩:=r.fn_of;rfl
theorem take_put {cur:List Value} {K off:Nat} {l:List Value} (h:off+l.length≤K)(hK:K≤cur.length):(putL off l cur).take K=putL off l (cur.take K):=by
 apply List.ext_getElem?
 intro i
 have hl:off+l.length≤(cur.take K).length:=by simp;omega
 rw [putL_at hl]
 by_cases e:i<K
 ·rw [List.getElem?_take_of_lt e,putL_at (by omega)]
  by_cases e2:off≤i∧i<off+l.length
  ·rw [if_pos e2,if_pos e2]
  ·rw [if_neg e2,if_neg e2,List.getElem?_take_of_lt e]
 ·rw [if_neg (by omega),List.getElem?_eq_none (by simp;omega),List.getElem?_eq_none (by simp;omega)]
theorem RowIs.put {T n:Nat} {rows:List (List AV)} {v:Value} {φ:Nat→Prop} {X X':Nat→Nat→(Nat→Prop)→AV→Value→Prop} (h:RowIs w T n rows v φ X) {i j:Nat} {r l:List AV} {us:List Value} (hr':rows[i]?=some r) (hle:j+l.length≤r.length) (hcl:us.length=l.length)
  (hone:∀ u∈us,u.oneCell'=true) {g:Nat} {cur:Array Value} {t:TypeId} (hh:w.heap[g]?=some (.cells cur t (0,0))) (hvg:v.ownBlock=some g)
  (hnew:∀ (s:Nat) x u ψ,l[s]?=some x→us[s]?=some u→X' i (j+s) ψ x u)
  (hold:∀ (q s:Nat) ψ x u,(∀ z,ψ z→z≠g)→¬ (q=i∧j≤s∧s<j+l.length)→X q s ψ x u→X' q s ψ x u) :
  i*n+j+us.length≤cur.size∧RowIs (w.setRow g (putL (i*n+j) us cur.toList).toArray) T n (rows.set i (putL j l r)) v φ X':=by
 obtain ⟨hrl,vs,Φ,h4,h5,h7,hgf,hΦ,hΦd,h8,h6⟩:=h
 have hi:i<rows.length:=(List.getElem?_eq_some_iff.1 hr').1
 have hv':vs[i]?=some vs[i]:=List.getElem?_eq_getElem (by omega)
 have e1:=h8 i r _ hr' hv'
 have hvl:∀ r∈vs,r.length=n:=by
  intro r' hr'
  obtain ⟨q,hq,rfl⟩:=List.getElem_of_mem hr'
  have:=h8 q rows[q] vs[q] (List.getElem?_eq_getElem (by omega)) (List.getElem?_eq_getElem hq)
  rw [this];exact hrl _ (List.getElem_mem _)
 have hrn:r.length=n:=hrl r (List.mem_of_getElem? hr')
 rcases h4.2 with⟨_,e0⟩|⟨g',cap,cur',e,hbase,hh',hnc,hcm,hcs,ht⟩
 ·omega
 ·obtain rfl:g'=g:=by rw [e] at hvg;exact Option.some.inj hvg
  obtain ⟨rfl,rfl⟩:cur'=cur∧T=t:=by rw [hh] at hh';cases hh';exact ⟨rfl,rfl⟩
  have hin:i*n+n≤vs.length*n:=by
   have:(i+1)*n≤vs.length*n:=Nat.mul_le_mul_right n zqo
   rw [Nat.succ_mul] at this;exact this
  have hcap:vs.length*n≤cap*n:=Nat.mul_le_mul_right n hnc
  have hfp:=flat_put vs hvl i j vs[i] us hv' zqo
  have hvl':∀ r∈vs.set i (putL j us vs[i]),r.length=n:=by
   intro q hq
   rcases List.mem_or_eq_of_mem_set hq with hq|rfl
   ·exact hvl q hq
   ·rw [putL_len (by omega)];omega
  refine ⟨by rw [hcs];omega,?_,vs.set i (putL j us vs[i]),fun q s x=>¬ (q=i∧j≤s∧s<j+l.length)∧Φ q s x,⟨?_,.inr ⟨g',cap,_,?_,hbase,setRow_heap w _ _ _ _ _ hh,?_,hcm,?_,?_⟩⟩,by simp [h5],?_,hgf,fun q s x hx=>hΦ q s x hx.2,fun q s q' s' x h1 h2=>hΦd q s q' s' x h1.2 h2.2,?_,?_⟩
  ·intro q hq
   rcases List.mem_or_eq_of_mem_set hq with hq|rfl
   ·exact hrl q hq
   ·rw [putL_len (by omega)];exact hrn
  ·rw [flatten_len hvl']
  ·rw [e];simp
  ·simpa using hnc
  ·rw [List.size_toArray,putL_len (by rw [hcl];simp [hcs];omega)];simpa using hcs
  ·rw [hfp,List.length_set,take_put (by omega) (by simp [hcs];omega),ht]
  ·intro q hq u hu
   rcases List.mem_or_eq_of_mem_set hq with hq|rfl
   ·exact h7 q hq u hu
   ·obtain ⟨s,hs,rfl⟩:=List.getElem_of_mem hu
    have:=putL_at (j:=j) (l:=us) (cs:=vs[i]) zqo s
    rw [List.getElem?_eq_getElem hs] at this
    split at this
    ·exact hone _ (List.mem_of_getElem? this.symm)
    ·exact h7 _ (List.getElem_mem _) _ (List.mem_of_getElem? this.symm)
  ·intro q r1 r2 hq1 hq2
   by_cases eq:q=i
   ·subst eq
    rw [List.getElem?_set_self (by omega)] at hq1 hq2
    cases hq1;cases hq2
    rw [putL_len (by omega),putL_len hle];exact e1
   ·rw [List.getElem?_set_ne (fun h=>eq h.symm)] at hq1 hq2
    exact h8 q r1 r2 hq1 hq2
  ·intro q r1 r2 s x u hq1 hq2 hs hu
   have hne:∀ z,(¬ (q=i∧j≤s∧s<j+l.length)∧Φ q s z)→z≠g':=fun z hz h=>(hΦ q s z hz.2).2 (by rw [e,h];rfl)
   by_cases eq:q=i
   ·subst eq
    rw [List.getElem?_set_self (by omega)] at hq1 hq2
    cases hq1;cases hq2
    rw [putL_at hle] at hs
    rw [putL_at (by omega),hcl] at hu
    by_cases e3:j≤s∧s<j+l.length
    ·rw [if_pos e3] at hs hu
     have:=hnew (s-j) x u (fun z=>¬ (q=q∧j≤s∧s<j+l.length)∧Φ q s z) hs hu
     rwa [show j+(s-j)=s by omega] at this
    ·rw [if_neg e3] at hs hu
     have h61:=h6 q r _ s x u hr' hv' hs hu
     have:(fun z=>¬ (q=q∧j≤s∧s<j+l.length)∧Φ q s z)=Φ q s:=by
      funext z
      exact propext ⟨fun h=>h.2,fun h=>⟨fun h'=>e3 h'.2,h⟩⟩
     show X' q s (fun z=>¬ (q=q∧j≤s∧s<j+l.length)∧Φ q s z) x u
     rw [this]
     exact hold q s (Φ q s) x u (fun z hz=>hne z ⟨fun h'=>e3 h'.2,hz⟩) (fun h'=>e3 h'.2) h61
   ·rw [List.getElem?_set_ne (fun h=>eq h.symm)] at hq1 hq2
    have h61:=h6 q r1 r2 s x u hq1 hq2 hs hu
    have:(fun z=>¬ (q=i∧j≤s∧s<j+l.length)∧Φ q s z)=Φ q s:=by
     funext z
     exact propext ⟨fun h=>h.2,fun h=>⟨fun h'=>eq h'.1,h⟩⟩
    show X' q s (fun z=>¬ (q=i∧j≤s∧s<j+l.length)∧Φ q s z) x u
    rw [this]
    exact hold q s (Φ q s) x u (fun z hz=>hne z ⟨fun h'=>eq h'.1,hz⟩) (fun h'=>eq h'.1) h61
theorem RowIs.blk {T n:Nat} {rows:List (List AV)} {v:Value} {φ:Nat→Prop} {X:Nat→Nat→(Nat→Prop)→AV→Value→Prop} (h:RowIs w T n rows v φ X)(hp:0<rows.length):∃ g cur,v.ownBlock=some g∧φ g∧w.heap[g]?=some (.cells cur T (0,0)):=by
 obtain⟨hrl,vs,Φ,h4,h5,h7,hgf,_⟩:=h
 rcases h4.2 with⟨_,e0⟩|⟨g,cap,cur,e,_,hh,_⟩
 ·omega
 ·have:v.ownBlock=some g:=by rw [e];rfl
  exact⟨g,cur,this,hgf g this,hh⟩
theorem WO.store {T m:Nat} {x y:Operand} {k i j:Nat} {ob ob':AO} {av:AV} {l:List AV} (ho:o.op=.store T x y) (hds:o.dst=none) (hn:sizeB P T=some m) (hx:σ.ev x=some (.pt k i j)) (hk:look k σ.M=some ob) (hy:σ.ev y=some av)
  (hB:av.cellB=true) (hl:av.cells=l) (hm:l.length=m) (h1:l.all AV.oneB=true) (hp:ob.put i j l=some ob'):WO P C o σ (σ.upd k ob'):=by
 intro G a w ok N Q' hN
 obtain ⟨p,ep,p1,p2,p3⟩:=(ok.evr hx).2.pt_of
 obtain ⟨hb,hr⟩:=ok.evr hy
 obtain ⟨c1,c2⟩:=cells_of hr hB
 have cb:=cells_bd hb
 rw [hl] at c1 c2 cb
 obtain ⟨v,hv⟩:∃ v,a.eval y=v:=⟨_,rfl⟩
 rw [hv] at c1 c2
 have hone:∀ u∈v.cells.toList,u.oneCell'=true:=fun u hu=>by
  obtain ⟨q,hq,rfl⟩:=List.getElem_of_mem hu
  have hq':q<l.length:=by simpa [c1] using hq
  exact oneB_of (c2 q l[q] _ (List.getElem?_eq_getElem hq') (by simp at hq;simp [hq])) (List.all_eq_true.1 h1 _ (List.getElem_mem hq'))
 obtain rfl:=addr_eq p1 p2 p3
 have fin:∀ (g:Nat) (cur:Array Value) (t:TypeId),w.heap[g]?=some (.cells cur t (0,0))→g=G.b k→i*G.n k+j+l.length≤cur.size→G.fp k g→ob'.bd σ.nk →
   (ObAt G (w.setRow g (putL (i*G.n k+j) v.cells.toList cur.toList).toArray) k ob')→o.wp P a w N Q':=fun g cur t hg hgb hle hown hbd hob=>by
  have hst:=run_storeCells_at P g (i*G.n k+j) t v.cells.toList 0 cur w hg (by simp [c1];omega) hone
  rw [Nat.add_zero,← putL_eq _ _ _ (by simp [c1];omega)] at hst
  unfold Oper.wp execOp
  simp only [ho,ep,hv,Instr.storeAt,Instr.sureAddr,storeVar,Sem.run_bind,Sem.run_pure,Result.andThen_ok,run_sizeB hn,← hgb,hst]
  rw [if_neg (by rw [c1,hm];simp)]
  simp only [Sem.run_bind,Sem.run_pure,Result.andThen_ok,hst,Oper.upon]
  rw [hds]
  exact hN G _ _ (ok.write _ hk hown hob hbd)
 have hobk:=ok.ob k ob hk
 cases ob with
 | box T' cells =>
  cases i with
  | succ i=>simp [AO.put] at hp
  | zero =>
   simp only [AO.put] at hp
   cases hle:Nat.ble (j+l.length) cells.length with
   | false=>simp [hle] at hp
   | true =>
    simp [hle] at hp
    subst hp
    have hle:=Nat.le_of_ble_eq_true hle
    obtain ⟨hf,cs,Φ,hbk,hs,hΦ,hΦd,hc⟩:=hobk.2.2
    refine fin (G.b k) cs T' hbk rfl (by rw [hs];simpa using hle) hf (fun q x hx=>?_) ⟨hf,_,fun q x=>¬ (j≤q∧q<j+l.length)∧Φ q x,setRow_heap w _ _ _ _ _ hbk,?_,fun q x hx=>hΦ q x hx.2,fun q q' x h1 h2=>hΦd q q' x h1.2 h2.2,?_⟩
    ·rw [putL_at hle] at hx
     split at hx
     ·exact cb _ x hx
     ·exact hobk.2.1 _ x hx
    ·simp only [Nat.zero_mul,Nat.zero_add,List.size_toArray]
     rw [putL_len (by simp [c1,hs];exact hle),putL_len hle];simpa using hs
    ·intro q x u hx hu
     simp only [Nat.zero_mul,Nat.zero_add,List.getElem?_toArray] at hu
     rw [putL_at hle] at hx
     rw [putL_at (by simp [c1,hs];exact hle)] at hu
     simp only [Array.length_toList,c1] at hu
     by_cases e:j≤q∧q<j+l.length
     ·rw [if_pos e] at hx hu
      exact .inl (c2 _ x u hx (by simpa using hu))
     ·rw [if_neg e] at hx hu
      refine ((hc q x u hx (by simpa using hu)).keep (Gh.le.refl _ σ.nk) (hobk.2.1 q x hx) fun z hz=>setRow_other w _ z _ (hΦ q z hz).2).wide fun z hz=>⟨e,hz⟩
 | row T' n rows =>
  simp only [AO.put] at hp
  cases hr':rows[i]? with
  | none=>simp [hr'] at hp
  | some r =>
   simp only [hr'] at hp
   by_cases hcond:j+l.length≤r.length∧l.all AV.pu0=true
   ·rw [if_pos hcond] at hp
    cases hp
    obtain ⟨hle,hpu⟩:=hcond
    obtain ⟨hn',hg,hR⟩:=hobk.2.2
    obtain ⟨g,cur,hvg,hφg,hh⟩:=hR.blk (by have:=(List.getElem?_eq_some_iff.1 hr').1;omega)
    have hgb:=hg g hvg
    obtain ⟨q1,q2⟩:=hR.put (X':=XP G.F) hr' hle (us:=v.cells.toList) (by simpa using c1) hone hh hvg (fun s x u ψ hs hu=>(pu0_bd (List.all_eq_true.1 hpu x (List.mem_of_getElem? hs)) 0).rp (c2 s x u hs (by simpa using hu))) (fun q s ψ x u _ _ h=>h)
    refine fin g cur T' hh hgb (by rw [hn'];simpa [c1] using q1) hφg trivial ⟨hn',hg,?_⟩
    rw [hn'];exact q2
   ·rw [if_neg hcond] at hp;cases hp
 | rwn T' n rows =>
  simp only [AO.put] at hp
  cases hr':rows[i]? with
  | none=>simp [hr'] at hp
  | some r =>
   simp only [hr'] at hp
   by_cases hcond:j+l.length≤r.length∧l.all AV.pu0=true
   ·rw [if_pos hcond] at hp
    cases hp
    obtain ⟨hle,hpu⟩:=hcond
    obtain ⟨hn',hg,hR⟩:=hobk.2.2
    obtain ⟨g,cur,hvg,hφg,hh⟩:=hR.blk (by have:=(List.getElem?_eq_some_iff.1 hr').1;omega)
    have hgb:=hg g hvg
    obtain ⟨q1,q2⟩:=hR.put (X':=XO G.F (w.setRow g (putL (i*n+j) v.cells.toList cur.toList).toArray)) hr' hle (us:=v.cells.toList) (by simpa using c1) hone hh hvg (fun s x u ψ hs hu=>.pu _ _ _ ((pu0_bd (List.all_eq_true.1 hpu x (List.mem_of_getElem? hs)) 0).rp (c2 s x u hs (by simpa using hu))))
     (fun q s ψ x u hne _ h=>OW.keep (fun _ _ h=>h) h fun z hz=>setRow_other w _ z _ (hne z hz))
    refine fin g cur T' hh hgb (by rw [hn'];simpa [c1] using q1) hφg trivial ⟨hn',hg,?_⟩
    rw [hn'];exact q2
   ·rw [if_neg hcond] at hp;cases hp
 | rof T' n rows hi hj y=>cases hp
 | rwo T' n rows hi hj y=>cases hp
 | bld T' e l'=>cases hp
 | opq q=>cases hp
end
end
section
open Go.RowKit
def AV.pu1:AV→Bool
 | .ag l=>l.all AV.pu0
 | av=>av.pu0
def AV.pu2:AV→Bool
 | .tu l=>l.all AV.pu1
 | av=>av.pu1
theorem pu1_bd {av:AV} (h:av.pu1=true)(nk:Nat):Bd nk av:=by
 cases av with
 | ag l=>exact .ag l fun i x hx=>pu0_bd (List.all_eq_true.1 h x (List.mem_of_getElem? hx)) nk
 | _=>refine pu0_bd ?_ nk;exact h
theorem pu2_bd {av:AV} (h:av.pu2=true)(nk:Nat):Bd nk av:=by
 cases av with
 | tu l=>exact .tu l fun i x hx=>pu1_bd (List.all_eq_true.1 h x (List.mem_of_getElem? hx)) nk
 | _=>refine pu1_bd ?_ nk;exact h
def St.evs (σ:St):List Operand→Option (List AV)
 | []=>some []
 | x::r =>
  match σ.ev x,St.evs σ r with
  | some av,some l=>some (av::l)
  | _,_=>none
section
variable {P:Program} {C:Cx} {σ σ':St} {G G':Gh} {a:Act} {w w':World} {o:Oper} {d:Tmp}
theorem Ok.evl (ok:Ok C σ G a w):∀ {xs:List Operand} {l:List AV},σ.evs xs=some l→(xs.map a.eval).length=l.length∧∀ (i:Nat)av u,l[i]?=some av→(xs.map a.eval)[i]?=some u→R G av u
 | [],l,h=>by cases h;exact ⟨rfl,fun i av u h=>by simp at h⟩
 | x::r,l,h=>by
  unfold St.evs at h
  cases h1:σ.ev x with
  | none=>simp [h1]at h
  | some av =>
   cases h2:σ.evs r with
   | none=>simp [h1,h2]at h
   | some l' =>
    simp [h1,h2]at h
    subst h
    obtain ⟨e1,e2⟩:=ok.evl h2
    refine ⟨by simpa using e1,fun i y u hy hu=>?_⟩
    cases i with
    | zero=>cases hy;cases hu;exact (ok.evr h1).2
    | succ i=>exact e2 i y u (by simpa using hy) (by simpa using hu)
theorem Ok.called (ok:Ok C σ G a w) {F':View} (hb:Below w.heap.size w w') (h1:View.le G.F F') (h2:∀ p u,F' p=some u→w'.cell? p=some u) (h3:∀ p u,F' p=some u→G.F p=some u∨w.heap.size≤p.block) :
  Ok C σ { G with F:=F' } a w' :=
 ok.world (S:=fun _=>False) ⟨h1,fun _ _=>rfl,fun _ _=>rfl,fun _ _=>rfl⟩ (fun _ _=>rfl) (Kept.below hb) (fun _ h=>h.elim) (fun k o x p q=>hb.block x (ok.my k o x p q).2) h2 h3
theorem WV.call {f:FuncId} {xs:Array Operand} {ts:Array TypeId} {args:List AV} {res:AV} (ho:o.op=.call { callee:=.value (.func f),args:=xs,argTypes:=ts }) (hc:∀ vs w,(callFunc f vs).run P w=.ok (.enter f vs) w)
  (hx:σ.evs xs.toList=some args) (hp:args.all AV.pu2=true) (h:Ctr P f args res):WV P C o σ res:=by
 intro G a w ok N Q' hN
 obtain ⟨e1,e2⟩:=ok.evl hx
 have hcalls:=h w G.F (xs.toList.map a.eval) ok.fw ⟨e1,fun i av u p q=>(pu2_bd (List.all_eq_true.1 hp av (List.mem_of_getElem? p)) 0).rp (e2 i av u p q)⟩
 unfold Oper.wp execOp
 have ev:a.eval (.func f)=.func (.func f) #[] #[]:=rfl
 have e3:(#[]++xs.map a.eval++#[]:Array Value)=(xs.toList.map a.eval).toArray:=by apply Array.ext';simp
 simp only [ho,resolve,ev,Deferred.ofValue,invoke,Sem.run_bind,Sem.run_pure,Result.andThen_ok,hc,Oper.upon,e3]
 refine hcalls.mono fun e w1 ⟨v,F',he,hb,h1,h2,h3,h4⟩=>?_
 subst he
 exact hN v _ w1 (fun σ'' a'' ok''=>ok''.called hb h1 h2 h3) (.pu _ _ h4) (h4.bd _)
theorem WV.inv {f:FuncId} {x:Operand} {name:String} {t:TypeId} {rv:Value} {l:List AV} {xs:Array Operand} {ts:Array TypeId} {args:List AV} {res:AV} (ho:o.op=.call { callee:=.invoke x name,args:=xs,argTypes:=ts })
  (hr:σ.ev x=some (.sc (.iface t rv))) (hc:∀ vs w,(callMethod (.iface t rv) name vs).run P w=.ok (.enter f (#[rv]++vs)) w) (hrv:rv=.agg #[])
  (hx:σ.evs xs.toList=some args) (hp:args.all AV.pu2=true) (h:Ctr P f (.ag []::args) res):WV P C o σ res:=by
 intro G a w ok N Q' hN
 obtain ⟨e1,e2⟩:=ok.evl hx
 subst hrv
 have hcalls:=h w G.F (.agg #[]::xs.toList.map a.eval) ok.fw ⟨by simpa using e1,fun i av u p q=>by
  cases i with
  | zero=>cases p;cases q;exact .ag [] #[] rfl fun i av u h=>by simp at h
  | succ i =>
   have p:args[i]?=some av:=by simpa using p
   exact (pu2_bd (List.all_eq_true.1 hp av (List.mem_of_getElem? p)) 0).rp (e2 i av u p (by simpa using q))⟩
 unfold Oper.wp execOp
 have e4:(#[Value.iface t (.agg #[])]++xs.map a.eval:Array Value)[0]?=some (Value.iface t (.agg #[])):=by rw [Array.getElem?_append_left (by simp)];rfl
 have e5:(#[Value.iface t (.agg #[])]++xs.map a.eval:Array Value).extract 1 (#[Value.iface t (.agg #[])]++xs.map a.eval:Array Value).size=xs.map a.eval:=by
  apply Array.ext'
  simp [List.take_of_length_le]
 simp only [ho,resolve,ok.evs hr,invoke,Sem.run_bind,Sem.run_pure,Result.andThen_ok,e4,e5,hc,Oper.upon]
 have e6:(#[Value.agg #[]]++xs.map a.eval:Array Value)=(Value.agg #[]::xs.toList.map a.eval).toArray:=by
  apply Array.ext'
  first|rfl|(simp;done)|(rw [Array.toList_append];simp;done)
 rw [e6]
 refine hcalls.mono fun e w1 ⟨v,F',he,hb,h1,h2,h3,h4⟩=>?_
 subst he
 exact hN v _ w1 (fun σ'' a'' ok''=>ok''.called hb h1 h2 h3) (.pu _ _ h4) (h4.bd _)
end
def AV.ren0 (ρ:Nat→Nat):AV→AV
 | .pt k i j=>.pt (ρ k) i j
 | .sl k=>.sl (ρ k)
 | av=>av
def AV.ren1 (ρ:Nat→Nat):AV→AV
 | .fn f l=>.fn f (l.map (AV.ren0 ρ))
 | av=>av.ren0 ρ
def AV.ren2 (ρ:Nat→Nat):AV→AV
 | .ag l=>.ag (l.map (AV.ren1 ρ))
 | av=>av.ren1 ρ
def AV.ren (ρ:Nat→Nat):AV→AV
 | .tu l=>.tu (l.map (AV.ren2 ρ))
 | av=>av.ren2 ρ
def AV.in0(nk:Nat):AV→Bool
 | .pt k _ _=>Nat.blt k nk
 | .sl k=>Nat.blt k nk
 | .ag _=>false
 | .tu _=>false
 | .fn _ _=>false
 | _=>true
def AV.in1 (nk:Nat):AV→Bool
 | .fn _ l=>l.all (AV.in0 nk)
 | av=>av.in0 nk
def AV.in2 (nk:Nat):AV→Bool
 | .ag l=>l.all (AV.in1 nk)
 | av=>av.in1 nk
def AV.inn (nk:Nat):AV→Bool
 | .tu l=>l.all (AV.in2 nk)
 | av=>av.in2 nk
def AO.ren (ρ:Nat→Nat):AO→AO
 | .box T cells=>.box T (cells.map (AV.ren1 ρ))
 | .rof T n rows hi hj x=>.rof T n rows hi hj (x.ren1 ρ)
 | .rwo T n rows hi hj x=>.rwo T n rows hi hj (x.ren1 ρ)
 | ob=>ob
def AO.inn (nk:Nat):AO→Bool
 | .box _ cells=>cells.all (AV.in1 nk)
 | .row _ _ _=>true
 | .rwn _ _ _=>true
 | .rof _ _ _ _ _ x=>x.in1 nk
 | .rwo _ _ _ _ _ x=>x.in1 nk
 | .bld _ _ _=>true
 | .opq _=>true
def TrT (σ:St)(ρ:Nat→Nat)(nk:Nat):List (Nat×AV)→Prop
 | []=>True
 | x::r=>(look x.1 σ.t=some (x.2.ren ρ)∧x.2.inn nk=true)∧TrT σ ρ nk r
def TrM (σ:St)(ρ:Nat→Nat)(nk:Nat):List (Nat×AO)→Prop
 | []=>True
 | x::r=>(look (ρ x.1) σ.M=some (x.2.ren ρ)∧x.2.inn nk=true∧Nat.blt x.1 nk=true)∧TrM σ ρ nk r
theorem in0_bd {nk:Nat} {av:AV} (h:av.in0 nk=true):Bd nk av:=by
 cases av with
 | sc v=>exact .sc v
 | ls n rows=>exact .ls n rows
 | ow T n rows=>exact .ow T n rows
 | pr cells=>exact .pr cells
 | pt k i j=>exact .pt k i j (of_blt h)
 | sl k=>exact .sl k (of_blt h)
 | _=>cases h
theorem in1_bd {nk:Nat} {av:AV} (h:av.in1 nk=true):Bd nk av:=by
 cases av with
 | fn f l=>exact .fn f l fun i x hx=>in0_bd (List.all_eq_true.1 h x (List.mem_of_getElem? hx))
 | _=>refine in0_bd ?_;exact h
theorem in2_bd {nk:Nat} {av:AV} (h:av.in2 nk=true):Bd nk av:=by
 cases av with
 | ag l=>exact .ag l fun i x hx=>in1_bd (List.all_eq_true.1 h x (List.mem_of_getElem? hx))
 | _=>refine in1_bd ?_;exact h
theorem inn_bd {nk:Nat} {av:AV} (h:av.inn nk=true):Bd nk av:=by
 cases av with
 | tu l=>exact .tu l fun i x hx=>in2_bd (List.all_eq_true.1 h x (List.mem_of_getElem? hx))
 | _=>refine in2_bd ?_;exact h
def Gh.ren (G:Gh)(ρ:Nat→Nat):Gh:=⟨G.F,fun k=>G.b (ρ k),fun k=>G.n (ρ k),fun k=>G.h (ρ k),fun k=>G.fp (ρ k)⟩
theorem R.ren0 {G:Gh} {ρ:Nat→Nat} {nk:Nat} {av:AV} {v:Value} (h:av.in0 nk=true)(r:R G (av.ren0 ρ) v):R (G.ren ρ) av v:=by
 cases av with
 | pt k i j=>obtain⟨p,rfl,a,b,c⟩:=r.pt_of;exact .pt k i j p a b c
 | sl k=>obtain⟨rfl,b⟩:=r.sl_of;exact R.sl (G:=G.ren ρ) k b
 | sc x=>rw [r.sc_eq];exact .pu _ _ (.sc x)
 | ls n rows=>exact .pu _ _ r.pu_of
 | pr cells=>exact .pu _ _ r.pr_of
 | ow T n rows=>exact r.no_ow.elim
 | _=>cases h
theorem R.ren1 {G:Gh} {ρ:Nat→Nat} {nk:Nat} {av:AV} {v:Value} (h:av.in1 nk=true) (r:R G (av.ren1 ρ) v):R (G.ren ρ) av v:=by
 cases av with
 | fn f l =>
  obtain ⟨cs,rfl,h1,h2⟩:=R.fn_of (l:=l.map (AV.ren0 ρ)) r
  exact .fn f l cs (by simpa using h1) fun i av u x y=>R.ren0 (List.all_eq_true.1 h av (List.mem_of_getElem? x)) (h2 i _ u (by rw [List.getElem?_map,x];rfl) y)
 | ag l=>cases h
 | tu l=>cases h
 | pt k i j=>exact R.ren0 (nk:=nk) h r
 | sl k=>exact R.ren0 (nk:=nk) h r
 | sc x=>exact R.ren0 (nk:=nk) h r
 | ls n rows=>exact R.ren0 (nk:=nk) h r
 | ow T n rows=>exact R.ren0 (nk:=nk) h r
 | pr cells=>exact R.ren0 (nk:=nk) h r
theorem R.ren2 {G:Gh} {ρ:Nat→Nat} {nk:Nat} {av:AV} {v:Value} (h:av.in2 nk=true) (r:R G (av.ren2 ρ) v):R (G.ren ρ) av v:=by
 cases av with
 | ag l =>
  obtain ⟨cs,rfl,h1,h2⟩:=R.ag_of (l:=l.map (AV.ren1 ρ)) r
  exact .ag l cs (by simpa using h1) fun i av u x y=>R.ren1 (List.all_eq_true.1 h av (List.mem_of_getElem? x)) (h2 i _ u (by rw [List.getElem?_map,x];rfl) y)
 | tu l=>cases h
 | fn f l=>exact R.ren1 (nk:=nk) h r
 | pt k i j=>exact R.ren1 (nk:=nk) h r
 | sl k=>exact R.ren1 (nk:=nk) h r
 | sc x=>exact R.ren1 (nk:=nk) h r
 | ls n rows=>exact R.ren1 (nk:=nk) h r
 | ow T n rows=>exact R.ren1 (nk:=nk) h r
 | pr cells=>exact R.ren1 (nk:=nk) h r
theorem R.ren_ {G:Gh} {ρ:Nat→Nat} {nk:Nat} {av:AV} {v:Value} (h:av.inn nk=true) (r:R G (av.ren ρ) v):R (G.ren ρ) av v:=by
 cases av with
 | tu l =>
  obtain ⟨cs,rfl,h1,h2⟩:=R.tu_of (l:=l.map (AV.ren2 ρ)) r
  exact .tu l cs (by simpa using h1) fun i av u x y=>R.ren2 (List.all_eq_true.1 h av (List.mem_of_getElem? x)) (h2 i _ u (by rw [List.getElem?_map,x];rfl) y)
 | ag l=>exact R.ren2 (nk:=nk) h r
 | fn f l=>exact R.ren2 (nk:=nk) h r
 | pt k i j=>exact R.ren2 (nk:=nk) h r
 | sl k=>exact R.ren2 (nk:=nk) h r
 | sc x=>exact R.ren2 (nk:=nk) h r
 | ls n rows=>exact R.ren2 (nk:=nk) h r
 | ow T n rows=>exact R.ren2 (nk:=nk) h r
 | pr cells=>exact R.ren2 (nk:=nk) h r
theorem CR.ren {G:Gh} {w:World} {ρ:Nat→Nat} {nk:Nat} {φ:Nat→Prop} {av:AV} {v:Value} (h:av.in1 nk=true)(r:CR G w φ (av.ren1 ρ) v):CR (G.ren ρ) w φ av v:=by
 rcases r with r|o
 ·exact .inl (R.ren1 h r)
 ·by_cases ho:av.own=true
  ·cases av with
   | ow T n rows=>exact .inr o
   | _=>cases ho
  ·have ho2:(av.ren1 ρ).own=false:=by cases av<;>first|rfl|exact absurd rfl ho
   exact .inl (R.ren1 h (.pu _ _ (OW.p o ho2)))
theorem ObAt.ren {G:Gh} {w:World} {ρ:Nat→Nat} {nk k:Nat} {ob:AO} (h:ob.inn nk=true) (g:ObAt G w (ρ k) (ob.ren ρ)):ob.bd nk∧ObAt (G.ren ρ) w k ob:=by
 cases ob with
 | box T cells =>
  obtain ⟨b1,cs,Φ,b2,b3,b4,b5,b6⟩:=g
  exact ⟨fun i av x=>in1_bd (List.all_eq_true.1 h av (List.mem_of_getElem? x)),b1,cs,Φ,b2,by simpa using b3,b4,b5,fun i av u x y=>CR.ren (List.all_eq_true.1 h av (List.mem_of_getElem? x)) (b6 i _ u (by rw [List.getElem?_map,x];rfl) y)⟩
 | row T n rows=>exact ⟨trivial,g⟩
 | rwn T n rows=>exact ⟨trivial,g⟩
 | rof T n rows hi hj y =>
  obtain ⟨g1,g2,g3⟩:=g
  refine ⟨in1_bd h,g1,g2,g3.keep (fun _ _=>rfl) fun i r j av ψ u _ _ _ x=>?_⟩
  unfold XH at x ⊢
  by_cases e:i=hi∧j=hj
  ·rw [if_pos e] at x ⊢
   exact R.ren1 h x
  ·rw [if_neg e] at x ⊢
   exact x
 | rwo T n rows hi hj y =>
  obtain ⟨g1,g2,g3⟩:=g
  refine ⟨in1_bd h,g1,g2,g3.keep (fun _ _=>rfl) fun i r j av ψ u _ _ _ x=>?_⟩
  unfold XQ at x ⊢
  by_cases e:i=hi∧j=hj
  ·rw [if_pos e] at x ⊢
   exact R.ren1 h x
  ·rw [if_neg e] at x ⊢
   exact x
 | bld T e l=>exact ⟨trivial,g⟩
 | opq q=>exact ⟨trivial,g⟩
theorem TrT.at_ {σ:St} {ρ:Nat→Nat} {nk:Nat}:∀ {t:List (Nat×AV)},TrT σ ρ nk t→∀ i av,look i t=some av→look i σ.t=some (av.ren ρ)∧av.inn nk=true
 | [],_,i,av,h=>by cases h
 | x::r,ht,i,av,h=>by
  by_cases e:i=x.1
  ·subst e
   rw [show look x.1 (x::r)=some x.2 from look_set_same]at h
   cases h
   exact ht.1
  ·rw [show look i (x::r)=look i r from look_set_other e]at h
   exact TrT.at_ ht.2 i av h
theorem TrM.at_ {σ:St} {ρ:Nat→Nat} {nk:Nat}:∀ {t:List (Nat×AO)},TrM σ ρ nk t→∀ i ob,look i t=some ob→look (ρ i) σ.M=some (ob.ren ρ)∧ob.inn nk=true∧i<nk
 | [],_,i,av,h=>by cases h
 | x::r,ht,i,av,h=>by
  by_cases e:i=x.1
  ·subst e
   rw [show look x.1 (x::r)=some x.2 from look_set_same] at h
   cases h
   exact⟨ht.1.1,ht.1.2.1,of_blt ht.1.2.2⟩
  ·rw [show look i (x::r)=look i r from look_set_other e] at h
   exact TrM.at_ ht.2 i av h
def injB (ρ:Nat→Nat):List Nat→Bool
 | []=>true
 | k::r=>r.all (fun q=>Nat.beq k q|| !Nat.beq (ρ k) (ρ q)) && injB ρ r
theorem injB_spec {ρ:Nat→Nat}:∀ {l:List Nat},injB ρ l=true→∀ k q,k∈l→q∈l→ρ k=ρ q→k=q
 | [],_,k,q,h,_=>by cases h
 | x::r,h,k,q,hk,hq=>fun e=>by
  simp only [injB,Bool.and_eq_true,List.all_eq_true,Bool.or_eq_true,Bool.not_eq_true']at h
  rcases List.mem_cons.1 hk with hk1|hk1
  ·rcases List.mem_cons.1 hq with hq1|hq1
   ·rw [hk1,hq1]
   ·rcases h.1 q hq1 with y|y
    ·rw [hk1];exact Nat.eq_of_beq_eq_true y
    ·rw [← hk1,e]at y;simp at y
  ·rcases List.mem_cons.1 hq with hq1|hq1
   ·rcases h.1 k hk1 with y|y
    ·rw [hq1];exact(Nat.eq_of_beq_eq_true y).symm
    ·rw [← hq1,e]at y;simp at y
   ·exact injB_spec h.2 k q hk1 hq1 e
theorem look_mem {α:Type}:∀ {l:List (Nat×α)} {i:Nat} {x:α},look i l=some x→i∈l.map (·.1)
 | [],i,x,h=>by cases h
 | y::r,i,x,h=>by
  by_cases e:i=y.1
  ·subst e;simp
  ·rw [show look i (y::r)=look i r from look_set_other e]at h
   have:=look_mem h
   simp only [List.map_cons,List.mem_cons];exact .inr this
def pinB (ρ:Nat→Nat)(nk:Nat):Nat→Bool
 | 0=>true
 | n+1=>Nat.beq (ρ n) n && Nat.blt n nk && pinB ρ nk n
theorem pinB_of {ρ:Nat→Nat} {nk:Nat}:∀ {n:Nat},pinB ρ nk n=true→n≤nk∧∀ k,k<n→ρ k=k
 | 0,_=>⟨Nat.zero_le _,fun k hk=>absurd hk (Nat.not_lt_zero k)⟩
 | n+1,h=>by
  simp only [pinB,Bool.and_eq_true]at h
  obtain⟨h1,h2⟩:=pinB_of h.2
  refine⟨of_blt h.1.2,fun k hk=>?_⟩
  by_cases e:k=n
  ·rw [e];exact Nat.eq_of_beq_eq_true h.1.1
  ·exact h2 k zqo
theorem Tr.ren {C:Cx} {σ σ':St} (ρ:Nat→Nat) (ht:TrT σ ρ σ'.nk σ'.t) (hm:TrM σ ρ σ'.nk σ'.M) (hi:(injB ρ (σ'.M.map (·.1)) && pinB ρ σ'.nk C.np)=true):Tr C σ σ':=fun G a w ok=>by
 rw [Bool.and_eq_true] at hi
 obtain ⟨hi,hpn⟩:=hi
 obtain ⟨hp1,hp2⟩:=pinB_of hpn
 refine ⟨G.ren ρ,ok.sz,⟨ok.df.1,hp1,fun k hk=>by
  show G.b (ρ k)=_∧G.n (ρ k)=_∧G.h (ρ k)=_
  rw [hp2 k hk];exact ok.df.2.2 k hk⟩,fun i av h=>?_,ok.bel,ok.fw,ok.f0,ok.f1,fun k ob h=>?_,fun k o x h1 h2=>?_,?_,?_⟩
 ·obtain ⟨h1,h2⟩:=ht.at_ i av h
  exact ⟨(ok.tm i _ h1).1,inn_bd h2,R.ren_ h2 (ok.tm i _ h1).2.2⟩
 ·obtain ⟨h1,h2,h3⟩:=hm.at_ k ob h
  obtain ⟨g1,g2,g3⟩:=ok.ob _ _ h1
  obtain ⟨p,q⟩:=ObAt.ren h2 g3
  exact ⟨h3,p,q⟩
 ·exact ok.my _ _ x (hm.at_ k o h1).1 h2
 ·intro k o k' o' x h1 h2 h3 h4
  have:=ok.dj _ _ _ _ x (hm.at_ k o h1).1 (hm.at_ k' o' h2).1 h3 h4
  exact injB_spec hi k k' (look_mem h1) (look_mem h2) this
 ·intro k o x p u h1 h2 h3
  exact ok.dF _ _ x p u (hm.at_ k o h1).1 h2 h3
theorem zqt {C:Cx} {σ σ':St} (ρ:Nat → Nat) (ht:TrT σ ρ σ'.nk σ'.t:=by repeat (first|exact trivial|refine ⟨⟨?_,?_⟩,?_⟩|rfl)) (hm:TrM σ ρ σ'.nk σ'.M:=by repeat (first|exact trivial|refine ⟨⟨?_,?_,?_⟩,?_⟩|rfl)) (hi:(injB ρ (σ'.M.map (·.1)) && pinB ρ σ'.nk C.np) = true:=by rfl):Tr C σ σ':=Tr.ren ρ ht hm hi
theorem zqu {C:Cx} {σ σ':St} (ρ:Nat → Nat) (hm:TrM σ ρ σ'.nk σ'.M) (hi:(injB ρ (σ'.M.map (·.1)) && pinB ρ σ'.nk C.np) = true) (ht:TrT σ ρ σ'.nk σ'.t:=by repeat (first|exact trivial|refine ⟨⟨?_,?_⟩,?_⟩|rfl)):Tr C σ σ':=Tr.ren ρ ht hm hi
end
section
open Go.RowKit
def rem {α:Type} (k:Nat):List (Nat×α)→List (Nat×α)
 | []=>[]
 | x::r=>bif Nat.beq k x.1 then rem k r else x::rem k r
theorem look_rem {α:Type} (k i:Nat):∀ (l:List (Nat×α)),look i (rem k l)=if i=k then none else look i l
 | []=>by simp [rem,look]
 | x::r=>by
  have ih:=look_rem k i r
  by_cases e:k=x.1
  ·have hb:Nat.beq k x.1=true:=by rw [e];simp
   simp only [rem,hb,cond_true,ih]
   by_cases e2:i=k
   ·rw [if_pos e2,if_pos e2]
   ·rw [if_neg e2,if_neg e2,look_set_other (fun h=>e2 (h.trans e.symm))]
  ·have hb:Nat.beq k x.1=false:=by
    cases hb:Nat.beq k x.1 with
    | false=>rfl
    | true=>exact absurd (Nat.eq_of_beq_eq_true hb) e
   simp only [rem,hb,cond_false]
   by_cases e3:i=x.1
   ·subst e3
    rw [show look x.1 (x::rem k r)=some x.2 from look_set_same,show look x.1 (x::r)=some x.2 from look_set_same,if_neg (fun h=>e h.symm)]
   ·rw [show look i (x::rem k r)=look i (rem k r) from look_set_other e3,show look i (x::r)=look i r from look_set_other e3,ih]
def St.drop(σ:St)(k:Nat):St:={ σ with M:=rem k σ.M }
def St.src (σ:St)(n:Nat):AV→Option (List (List AV))
 | .ls m rows=>bif Nat.beq m n && Nat.blt 0 m then some rows else none
 | .sl k =>
  match look k σ.M with
  | some (.row _ m rows)=>bif Nat.beq m n && Nat.blt 0 m then some rows else none
  | _=>none
 | _=>none
section
variable {P:Program} {C:Cx} {σ σ':St} {G G':Gh} {a:Act} {w w':World} {o:Oper} {d:Tmp}
theorem Ok.drop_ (ok:Ok C σ G a w)(k:Nat):Ok C (σ.drop k) G a w:=by
 have hl:∀ i ob,look i (σ.drop k).M=some ob→i≠k∧look i σ.M=some ob:=fun i ob h=>by
  rw [show look i (σ.drop k).M=_ from look_rem k i σ.M] at h
  by_cases e:i=k
  ·rw [if_pos e] at h;cases h
  ·rw [if_neg e] at h;exact⟨e,h⟩
 exact⟨ok.sz,ok.df,ok.tm,ok.bel,ok.fw,ok.f0,ok.f1,fun i ob h=>ok.ob i ob (hl i ob h).2,fun i o x h=>ok.my i o x (hl i o h).2,fun i o i' o' x h h'=>ok.dj i o i' o' x (hl i o h).2 (hl i' o' h').2,fun i o x p u h=>ok.dF i o x p u (hl i o h).2⟩
theorem drop_look {σ:St} {k i:Nat} {ob:AO} (h:look i (σ.drop k).M=some ob):i≠k∧look i σ.M=some ob:=by
 rw [show look i (σ.drop k).M=_ from look_rem k i σ.M]at h
 by_cases e:i=k
 ·rw [if_pos e]at h;cases h
 ·rw [if_neg e]at h;exact⟨e,h⟩
theorem Ok.newObj (ok:Ok C σ G a w) {S:Nat→Prop} {b n:Nat} {h:Value} {φ:Nat→Prop} {ob:AO} (hb:Kept S w w') (hS:∀ x,S x→C.may x) (hw:∀ k o x,look k σ.M=some o→G.fp k x→¬ S x) (hF:∀ p u,G.F p=some u→¬ S p.block)
  (hob:ObAt (G.with σ.nk b n h φ) w' σ.nk ob) (hbd:ob.bd (σ.nk+1)) (hφ:∀ x,φ x→C.may x∧x<w'.heap.size∧(∀ k o,look k σ.M=some o→¬ G.fp k x)∧∀ p u,G.F p=some u→p.block≠x) :
  Ok C (σ.new ob) (G.with σ.nk b n h φ) a w':=by
 have hle:=G.with_le σ.nk b n h φ
 have hfp:=G.with_fp σ.nk b n h φ
 have hbl:∀ p u,G.F p=some u→w'.heap[p.block]?=w.heap[p.block]?:=fun p u x=>hb.block _ (cell_block (ok.fw p u x)) (hF p u x)
 have ok1:Ok C σ (G.with σ.nk b n h φ) a w':=ok.world hle hfp hb hS (fun k o x h1 h2=>hb.block x (ok.my k o x h1 h2).2 (hw k o x h1 h2)) (fun p u x=>(World.cell?_of_block (hbl p u x)).trans (ok.fw p u x)) (fun _ _ x=>.inl x)
 refine ok1.add hob hbd fun x hx=>?_
 have e2:(G.with σ.nk b n h φ).fp σ.nk=φ:=if_pos rfl
 rw [e2] at hx
 refine ⟨(hφ x hx).1,(hφ x hx).2.1,fun k o h1=>?_,(hφ x hx).2.2.2⟩
 rw [hfp k (ok.ob k o h1).1]
 exact (hφ x hx).2.2.1 k o h1
theorem RowIs.rd {T n:Nat} {rows:List (List AV)} {v:Value} {φ:Nat→Prop} {X:Nat→Nat→(Nat→Prop)→AV→Value→Prop} (h:RowIs w T n rows v φ X) :
  ∃ A c,∃ vs:List (List Value),∃ Φ:Nat→Nat→Nat→Prop,v=.slice A vs.length c∧vs.length=rows.length∧Rd w w.heap.size n A vs∧(∀ r∈vs,r.length=n)∧(∀ r∈vs,∀ u∈r,u.oneCell'=true) ∧
   (∀ (i:Nat) r r',rows[i]?=some r→vs[i]?=some r'→r'.length=r.length)∧(∀ i j x,Φ i j x→φ x∧v.ownBlock≠some x)∧(∀ i j i' j' x,Φ i j x→Φ i' j' x→i=i'∧j=j') ∧
   ∀ (i:Nat) r r' (j:Nat) av u,rows[i]?=some r→vs[i]?=some r'→r[j]?=some av→r'[j]?=some u→X i j (Φ i j) av u:=by
 obtain ⟨hrl,vs,Φ,h4,h5,h7,hgf,hΦ,hΦd,h8,h6⟩:=h
 have hvl:∀ r∈vs,r.length=n:=by
  intro r' hr'
  obtain ⟨q,hq,rfl⟩:=List.getElem_of_mem hr'
  have:=h8 q rows[q] vs[q] (List.getElem?_eq_getElem (by omega)) (List.getElem?_eq_getElem hq)
  rw [this];exact hrl _ (List.getElem_mem _)
 obtain ⟨A,c,hA,hrd,_,_⟩:=rd_of_own h4 hvl rfl rfl
 exact ⟨A,c,vs,Φ,hA,h5,hrd,hvl,h7,h8,hΦ,hΦd,h6⟩
theorem Ok.src_ (ok:Ok C σ G a w) {n:Nat} {av:AV} {rows:List (List AV)} {v:Value} (hs:σ.src n av=some rows) (r:R G av v) :
  ∃ A c,∃ l:List (List Value),v=.slice A rows.length c∧l.length=rows.length∧Rd w w.heap.size n A l∧(∀ r∈l,r.length=n)∧(∀ r∈l,∀ u∈r,u.oneCell'=true)∧(∀ r∈rows,r.length=n)∧∀ (i:Nat) r r',rows[i]?=some r→l[i]?=some r'→RL G.F r r':=by
 cases av with
 | ls m rows' =>
  simp only [St.src] at hs
  cases hmn:Nat.beq m n && Nat.blt 0 m with
  | true =>
   rw [hmn] at hs
   simp only [Bool.and_eq_true] at hmn
   have e:=Nat.eq_of_beq_eq_true hmn.1
   have h0:=of_blt hmn.2
   subst e
   cases hs
   obtain ⟨A,cap,ad,u,rfl,h1,h2,h3,h4,_⟩:=r.pu_of.ls_of
   have key:∀ (i:Nat) r',((List.range rows.length).map fun i=>(List.range m).map (u i))[i]?=some r'→∃ hi:i<rows.length,r'=(List.range m).map (u i):=fun i r' h=>by
    have hi:i<rows.length:=by simpa using(List.getElem?_eq_some_iff.1 h).1
    simp [hi] at h
    exact ⟨hi,h.symm⟩
   refine ⟨A,cap,(List.range rows.length).map fun i=>(List.range m).map (u i),rfl,by simp,fun hp=>⟨ad,h2 (by simpa using hp),?_,fun k r' hr' j x hx=>?_⟩,?_,?_,h1,fun i r r' hr hr'=>?_⟩
   ·have hp:0<rows.length:=by simpa using hp
    have hr0:rows[0]?=some rows[0]:=List.getElem?_eq_getElem hp
    have hl0:0<(rows[0]'hp).length:=by rw [h1 _ (List.getElem_mem hp)];exact h0
    have:=h3 0 rows[0] 0 (rows[0]'hp)[0] hr0 (List.getElem?_eq_getElem hl0)
    have:=cell_block (ok.fw _ _ this.1)
    rwa [block_of_add] at this
   ·obtain ⟨hi,rfl⟩:=key k r' hr'
    have hj:j<m:=by simpa using(List.getElem?_eq_some_iff.1 hx).1
    simp [hj] at hx
    have hlen:=h1 _ (List.getElem_mem hi)
    rw [← hx]
    exact ok.fw _ _ (h3 k rows[k] j _ (List.getElem?_eq_getElem hi) (List.getElem?_eq_getElem (by omega))).1
   ·intro r' hr'
    obtain ⟨q,hq,rfl⟩:=List.getElem_of_mem hr'
    simp
   ·intro r' hr' x hx
    obtain ⟨q,hq,rfl⟩:=List.getElem_of_mem hr'
    obtain ⟨hi,e⟩:=key q _ (List.getElem?_eq_getElem hq)
    rw [e] at hx
    obtain ⟨j,hj,rfl⟩:=List.mem_map.1 hx
    have hj:j<m:=by simpa using hj
    have hlen:=h1 _ (List.getElem_mem hi)
    exact (h3 q rows[q] j _ (List.getElem?_eq_getElem hi) (List.getElem?_eq_getElem (by omega))).2
   ·obtain ⟨hi,rfl⟩:=key i r' hr'
    have hlen:=h1 _ (List.mem_of_getElem? hr)
    refine ⟨by simp [hlen],fun j av x hav hx=>?_⟩
    have hj:j<m:=by simpa using(List.getElem?_eq_some_iff.1 hx).1
    simp [hj] at hx
    rw [← hx]
    exact h4 i r j av hr hav
  | false=>rw [hmn] at hs;cases hs
 | sl k =>
  simp only [St.src] at hs
  cases hk:look k σ.M with
  | none=>simp [hk] at hs
  | some ob =>
   cases ob with
   | box T cells=>simp [hk] at hs
   | rwn T m rows'=>simp [hk] at hs
   | rof T m rows' hi hj y=>simp [hk] at hs
   | rwo T m rows' hi hj y=>simp [hk] at hs
   | bld T e l=>simp [hk] at hs
   | opq q=>simp [hk] at hs
   | row T m rows' =>
    simp only [hk] at hs
    cases hmn:Nat.beq m n && Nat.blt 0 m with
    | true =>
     rw [hmn] at hs
     simp only [Bool.and_eq_true] at hmn
     have e:=Nat.eq_of_beq_eq_true hmn.1
     subst e
     cases hs
     have hob:=(ok.ob k _ hk).2.2
     obtain ⟨hn,hg,hR⟩:=hob
     obtain ⟨A,c,vs,Φ,hA,h5,hrd,hvl,h7,h8,_,_,h6⟩:=hR.rd
     exact ⟨A,c,vs,by rw [r.sl_of.1,hA,h5],h5,hrd,hvl,h7,hR.1,fun i r r' hr hr'=>⟨h8 i r r' hr hr',fun j av u hav hu=>h6 i r r' j av u hr hr' hav hu⟩⟩
    | false=>rw [hmn] at hs;cases hs
 | _=>cases hs
theorem RowIs.app {T e n by_:Nat} {z:Value} {i:TypeInfo} {ty:TypeId} {rows rows2:List (List AV)} {v:Value} {φ φ2:Nat→Prop} {Y:World→(Nat→Prop)→AV→Value→Prop} (h:RowIs w e n rows v φ (fun _ _=>Y w)) (hT:P.underlying T=some (.slice e))
  (hi:P.info? e=some i) (hz:i.zero=some z) (hn:i.size=n) (hby:i.bytes=by_) (hzs:z.cells.size=n) (h0:0<n) {A:Option Addr} {c:Nat} {l:List (List Value)} {Ψ:Nat→Nat→Nat→Prop}
  (hrd:Rd w w.heap.size n A l) (hl:l.length=rows2.length) (hll:∀ r∈l,r.length=n) (hl1:∀ r∈l,∀ u∈r,u.oneCell'=true) (hrl2:∀ r∈rows2,r.length=n)
  (hlen2:∀ (i:Nat) r r',rows2[i]?=some r→l[i]?=some r'→r'.length=r.length) (hΨ:∀ i j x,Ψ i j x→φ2 x) (hΨd:∀ i j i' j' x,Ψ i j x→Ψ i' j' x→i=i'∧j=j') (hdj:∀ x,φ x→φ2 x→False) (hlt:∀ x,φ x∨φ2 x→x<w.heap.size)
  (hrel2:∀ (i:Nat) r r' (j:Nat) av u,rows2[i]?=some r→l[i]?=some r'→r[j]?=some av→r'[j]?=some u→Y w (Ψ i j) av u)
  (hY:∀ w' ψ av u,(∀ x,ψ x→w'.heap[x]?=w.heap[x]?)→Y w ψ av u→Y w' ψ av u) (hb1:rows.length+rows2.length≤1000000000) (hb2:by_≤100000) :
  ∃ v' w',(Builtin.append_ #[T,T] ty #[v,.slice A l.length c]).run P w=.ok v' w'∧w.grownBy w' v.ownBlock∧(v'.ownBlock=v.ownBlock∨v'.ownBlock=some w.heap.size)∧v'.oneCell'=true ∧
   RowIs w' e n (rows++rows2) v' (fun x=>v'.ownBlock=some x∨φ x∨φ2 x) (fun _ _=>Y w'):=by
 obtain ⟨hrl,vs,Φ,h4,h5,h7,hgf,hΦ,hΦd,h8,h6⟩:=h
 obtain ⟨v',w',hrun,q1,q2,q3⟩:=run_append_rd (P:=P) (A:=A) (l:=l) 0 T ty e i z n by_ hT hi hz hn hby hzs h0 v vs.length vs.flatten h4 c hrd hll hl1 (by rw [h5,hl];unfold maxLen;omega) (by rw [h5,hl];exact Nat.le_trans (Nat.mul_le_mul hb1 hb2) (by decide)) (Nat.zero_le _)
 have hone:v'.oneCell'=true:=by rcases q1.2 with⟨e,_⟩|⟨g,cap,cur,e,_⟩<;>rw [e]<;>rfl
 have hno:∀ i j x,Φ i j x→some x≠v'.ownBlock:=fun i j x hx e=>by
  have:=hlt x (.inl (hΦ i j x hx).1)
  rcases q3 with q|q
  ·exact (hΦ i j x hx).2 (q.symm.trans e.symm)
  ·rw [q] at e;cases e;omega
 have hno2:∀ i j x,Ψ i j x→some x≠v'.ownBlock:=fun i j x hx e=>by
  have:=hlt x (.inr (hΨ i j x hx))
  rcases q3 with q|q
  ·exact hdj x (hgf x (q.symm.trans e.symm)) (hΨ i j x hx)
  ·rw [q] at e;cases e;omega
 refine ⟨v',w',hrun,q2,q3,hone,fun r hr=>(List.mem_append.1 hr).elim (hrl r) (hrl2 r),vs++l,fun i j x=>if i<rows.length then Φ i j x else Ψ (i-rows.length) j x,?_,by rw [List.length_append,List.length_append,h5,hl],
  fun r hr=>(List.mem_append.1 hr).elim (h7 r) (hl1 r),fun g hg=>.inl hg,fun i j x hx=>?_,fun i j i' j' x h1 h2=>?_,fun j r r' hr hr'=>?_,fun j r r' s av u hr hr' hs hu=>?_⟩
 ·rw [List.length_append,List.flatten_append];exact q1
 ·have hx:if i<rows.length then Φ i j x else Ψ (i-rows.length) j x:=hx
  by_cases hi:i<rows.length
  ·rw [if_pos hi] at hx
   exact ⟨.inr (.inl (hΦ i j x hx).1),fun e=>hno i j x hx e.symm⟩
  ·rw [if_neg hi] at hx
   exact ⟨.inr (.inr (hΨ _ j x hx)),fun e=>hno2 _ j x hx e.symm⟩
 ·have h1:if i<rows.length then Φ i j x else Ψ (i-rows.length) j x:=h1
  have h2:if i'<rows.length then Φ i' j' x else Ψ (i'-rows.length) j' x:=h2
  by_cases hi:i<rows.length<;>by_cases hi':i'<rows.length
  ·rw [if_pos hi] at h1;rw [if_pos hi'] at h2;exact hΦd i j i' j' x h1 h2
  ·rw [if_pos hi] at h1;rw [if_neg hi'] at h2;exact (hdj x (hΦ i j x h1).1 (hΨ _ j' x h2)).elim
  ·rw [if_neg hi] at h1;rw [if_pos hi'] at h2;exact (hdj x (hΦ i' j' x h2).1 (hΨ _ j x h1)).elim
  ·rw [if_neg hi] at h1;rw [if_neg hi'] at h2
   obtain ⟨e1,e2⟩:=hΨd _ j _ j' x h1 h2
   exact ⟨by omega,e2⟩
 ·by_cases hj:j<rows.length
  ·rw [List.getElem?_append_left hj] at hr
   rw [List.getElem?_append_left (by omega)] at hr'
   exact h8 j r r' hr hr'
  ·rw [List.getElem?_append_right (by omega)] at hr
   rw [List.getElem?_append_right (by omega),h5] at hr'
   exact hlen2 _ r r' hr hr'
 ·have go:∀ ψ:Nat→Prop,(∀ x,ψ x→x<w.heap.size∧some x≠v.ownBlock)→Y w ψ av u→Y w' ψ av u:=fun ψ hψ y=>hY w' ψ av u (fun x hx=>q2.block x (hψ x hx).1 (hψ x hx).2) y
  by_cases hj:j<rows.length
  ·rw [List.getElem?_append_left hj] at hr
   rw [List.getElem?_append_left (by omega)] at hr'
   have e:(fun x=>if j<rows.length then Φ j s x else Ψ (j-rows.length) s x)=Φ j s:=by funext x;rw [if_pos hj]
   show Y w' (fun x=>if j<rows.length then Φ j s x else Ψ (j-rows.length) s x) av u
   rw [e]
   exact go _ (fun x hx=>⟨hlt x (.inl (hΦ _ _ x hx).1),fun e=>(hΦ _ _ x hx).2 e.symm⟩) (h6 j r r' s av u hr hr' hs hu)
  ·rw [List.getElem?_append_right (by omega)] at hr
   rw [List.getElem?_append_right (by omega),h5] at hr'
   have e:(fun x=>if j<rows.length then Φ j s x else Ψ (j-rows.length) s x)=Ψ (j-rows.length) s:=by funext x;rw [if_neg hj]
   show Y w' (fun x=>if j<rows.length then Φ j s x else Ψ (j-rows.length) s x) av u
   rw [e]
   exact go _ (fun x hx=>⟨hlt x (.inr (hΨ _ _ x hx)),fun e=>hdj x (hgf x e.symm) (hΨ _ _ x hx)⟩) (hrel2 _ r r' s av u hr hr' hs hu)
theorem run_appendO {x y:Operand} {T:TypeId} {A:Option Addr} {len c:Nat} {v v':Value} {N:Act→World→Prop} {Q':Exit→Act→World→Prop} (ho:o.op=.call { callee:=.builtin .append,args:=#[x,y],argTypes:=#[T,T] })(ex:a.eval x=v)(ey:a.eval y=.slice A len c)
  (hrun:(Builtin.append_ #[T,T] o.type #[v,.slice A len c]).run P w=.ok v' w')(hN:N (a.put o.dst v') w'):o.wp P a w N Q':=by
 unfold Oper.wp execOp
 have hargs:(#[x,y]:Array Operand).map a.eval=#[v,.slice A len c]:=by simp [ex,ey]
 simp only [ho,resolve,invoke,builtin,Sem.run_bind,Sem.run_pure,Result.andThen_ok,hargs,hrun,Oper.upon]
 exact hN
theorem Ok.joined (ok:Ok C σ G a w) {k:Nat} {ob ob':AO} {n:Nat} {v v':Value} {φ2:Nat→Prop} {gone:List Nat} {σd:St} (okd:Ok C σd G a w) (hd:∀ i o,look i σd.M=some o→i≠k∧look i σ.M=some o∧¬ i∈gone) (hnk:σd.nk=σ.nk)
  (hk:look k σ.M=some ob) (hv:∀ x,v.ownBlock=some x→G.fp k x) (hφ2:∀ x,φ2 x→∃ q o,q∈gone∧look q σ.M=some o∧G.fp q x)
  (hg:w.grownBy w' v.ownBlock) (hv':v'.ownBlock=v.ownBlock∨v'.ownBlock=some w.heap.size) (hvs:∀ x,v'.ownBlock=some x→x<w'.heap.size)
  (hob:ObAt (G.with σd.nk (v'.ownBlock.getD 0) n v' (fun x=>v'.ownBlock=some x∨G.fp k x∨φ2 x)) w' σd.nk ob') (hbd:ob'.bd (σd.nk+1)) :
  Ok C (σd.new ob') (G.with σd.nk (v'.ownBlock.getD 0) n v' (fun x=>v'.ownBlock=some x∨G.fp k x∨φ2 x)) a w':=by
 refine okd.newObj (S:=fun x=>v.ownBlock=some x) ⟨hg.os,hg.tape,hg.output,hg.size,fun x h1 h2=>hg.block x h1 fun e=>h2 e.symm⟩ (fun x hx=>(ok.my k _ x hk (hv x hx)).1)
  (fun i o x h1 h2 h3=>(hd i o h1).1 (ok.dj i o k ob x (hd i o h1).2.1 hk h2 (hv x h3))) (fun p u h1 h2=>ok.dF k ob _ p u hk (hv _ h2) h1 rfl) hob hbd fun x hx=>?_
 have old:∀ q o x,look q σ.M=some o→G.fp q x→(q=k∨q∈gone)→C.may x∧x<w'.heap.size∧(∀ i o,look i σd.M=some o→¬ G.fp i x)∧∀ p u,G.F p=some u→p.block≠x:=fun q o x h1 h2 h3 =>
  ⟨(ok.my q o x h1 h2).1,Nat.lt_of_lt_of_le (ok.my q o x h1 h2).2 hg.size,fun i oi hi h4=>by
   obtain ⟨d1,d2,d3⟩:=hd i oi hi
   have:=ok.dj i oi q o x d2 h1 h4 h2
   rcases h3 with h3|h3
   ·exact d1 (this.trans h3)
   ·exact d3 (this ▸ h3),fun p u=>ok.dF q o x p u h1 h2⟩
 rcases hx with hx|hx|hx
 ·rcases hv' with e|e
  ·exact old k ob x hk (hv x (e.symm.trans hx)) (.inl rfl)
  ·have hxx:x=w.heap.size:=by rw [e] at hx;exact (Option.some.inj hx).symm
   refine ⟨.inl (by rw [hxx];exact ok.bel.size),hvs x hx,fun i o h1 h2=>?_,fun p u h1 h2=>?_⟩
   ·have:=(ok.my i o x (hd i o h1).2.1 h2).2;omega
   ·have:=cell_block (ok.fw p u h1);omega
 ·exact old k ob x hk hx (.inl rfl)
 ·obtain ⟨q,o,h1,h2,h3⟩:=hφ2 x hx
  exact old q o x h2 h3 (.inr h1)
theorem RowIs.lt {T n:Nat} {rows:List (List AV)} {v:Value} {φ:Nat→Prop} {X:Nat→Nat→(Nat→Prop)→AV→Value→Prop} (h:RowIs w T n rows v φ X):∀ x,v.ownBlock=some x→x<w.heap.size:=fun x hx=>by
 obtain⟨_,vs,Φ,h4,_⟩:=h
 rcases h4.2 with⟨e,_⟩|⟨g,cap,cur,e,_,hh,_⟩
 ·rw [e]at hx;cases hx
 ·rw [e]at hx
  obtain rfl:g=x:=Option.some.inj hx
  exact (Array.getElem?_eq_some_iff.1 hh).1
theorem RowIs.fp {T n:Nat} {rows:List (List AV)} {v:Value} {φ:Nat→Prop} {X:Nat→Nat→(Nat→Prop)→AV→Value→Prop} (h:RowIs w T n rows v φ X):∀ x,v.ownBlock=some x→φ x:=by
 obtain⟨_,vs,Φ,h4,_,_,h7,_⟩:=h
 exact h7
theorem with_h {G:Gh} {k b n:Nat} {v:Value} {φ:Nat→Prop}:(G.with k b n v φ).h k=v:=if_pos rfl
theorem with_b {G:Gh} {k b n:Nat} {v:Value} {φ:Nat→Prop}:(G.with k b n v φ).b k=b:=if_pos rfl
theorem with_n {G:Gh} {k b n:Nat} {v:Value} {φ:Nat→Prop}:(G.with k b n v φ).n k=n:=if_pos rfl
theorem with_sl {G:Gh} {k b n:Nat} {v:Value} {φ:Nat→Prop} (h:v.oneCell'=true):R (G.with k b n v φ) (.sl k) v:=by
 have:=R.sl (G:=G.with k b n v φ) k (by rw [with_h];exact h)
 rwa [with_h] at this
theorem with_f {G:Gh} {k b n:Nat} {v:Value} {φ:Nat→Prop}:(G.with k b n v φ).fp k=φ:=if_pos rfl
theorem WO.append {T e n by_ k m:Nat} {z:Value} {i:TypeInfo} {x y:Operand} {rows rows2 rows':List (List AV)} {av2:AV} (ho:o.op=.call { callee:=.builtin .append,args:=#[x,y],argTypes:=#[T,T] }) (hT:P.underlying T=some (.slice e))
  (hi:P.info? e=some i) (hz:i.zero=some z) (hn:i.size=n) (hby:i.bytes=by_) (hzs:z.cells.size=n) (h0:Nat.blt 0 n=true) (hds:o.dst=some d) (hd:Nat.blt d C.N=true)
  (hx:σ.ev x=some (.sl k)) (hk:look k σ.M=some (.row e n rows)) (hy:σ.ev y=some av2) (hs:σ.src n av2=some rows2) (hm:σ.nk=m) (hb1:rows.length+rows2.length≤1000000000) (hb2:Nat.ble by_ 100000=true) (hrr:rows++rows2=rows') :
  WO P C o σ (((σ.drop k).new (.row e n rows')).put d (.sl m)):=by
 intro G a w ok N Q' hN
 obtain ⟨A,c,l,ey,hl,hrd,hll,hl1,hrl2,hrel2⟩:=ok.src_ hs (ok.evr hy).2
 obtain ⟨hn',hg,hR⟩:=(ok.ob k _ hk).2.2
 obtain ⟨v',w',hrun,q2,q3,hone,hR'⟩:=RowIs.app (P:=P) (ty:=o.type) (c:=c) (Y:=fun _ _ av u=>RP G.F av u) (φ2:=fun _=>False) (Ψ:=fun _ _ _=>False) hR hT hi hz hn hby hzs (of_blt h0) hrd hl hll hl1 hrl2 (fun i r r' a b=>(hrel2 i r r' a b).1) (fun _ _ _ h=>h) (fun _ _ _ _ _ h=>h.elim) (fun _ _ h=>h)
  (fun x hx=>hx.elim (fun h=>(ok.my k _ x hk h).2) False.elim) (fun i r r' j av u a b c d=>(hrel2 i r r' a b).2 j av u c d) (fun _ _ _ _ _ h=>h) hb1 (Nat.le_of_ble_eq_true hb2)
 rw [← hl] at ey
 have ok':=ok.joined (gone:=[]) (n:=n) (v':=v') (φ2:=fun _=>False) (ob':=.row e n rows') (okd:=ok.drop_ k) (fun i o h=>⟨(drop_look h).1,(drop_look h).2,by simp⟩) rfl hk hR.fp (fun x h=>h.elim) q2 q3 hR'.lt
  ⟨with_n,(fun g hg=>by rw [with_h] at hg;rw [with_b,hg];rfl),by rw [with_h,with_f,← hrr];exact hR'⟩ trivial
 refine run_appendO ho (ok.evr hx).2.sl_of.1 ey hrun ?_
 rw [hds]
 subst hm
 exact hN _ _ _ (ok'.set (d:=some d) (av:=.sl σ.nk) (v:=v') (by have:=R.sl (G:=G.with σ.nk (v'.ownBlock.getD 0) n v' (fun x=>v'.ownBlock=some x∨G.fp k x∨False)) σ.nk (by rw [with_h];exact hone);rw [with_h] at this;exact this) (.sl _ (Nat.lt_succ_self _)) fun x hx=>by cases hx;exact of_blt hd)
theorem WO.appendM {T e n by_ k q m:Nat} {z:Value} {i:TypeInfo} {x y:Operand} {rows rows2 rows':List (List AV)} {e2:TypeId} (ho:o.op=.call { callee:=.builtin .append,args:=#[x,y],argTypes:=#[T,T] }) (hT:P.underlying T=some (.slice e))
  (hi:P.info? e=some i) (hz:i.zero=some z) (hn:i.size=n) (hby:i.bytes=by_) (hzs:z.cells.size=n) (h0:Nat.blt 0 n=true) (hds:o.dst=some d) (hd:Nat.blt d C.N=true)
  (hx:σ.ev x=some (.sl k)) (hk:look k σ.M=some (.rwn e n rows)) (hy:σ.ev y=some (.sl q)) (hq:look q σ.M=some (.rwn e2 n rows2)) (hkq:Nat.beq k q=false) (hm:σ.nk=m) (hb1:rows.length+rows2.length≤1000000000) (hb2:Nat.ble by_ 100000=true) (hrr:rows++rows2=rows') :
  WO P C o σ ((((σ.drop k).drop q).new (.rwn e n rows')).put d (.sl m)):=by
 intro G a w ok N Q' hN
 have hkq':k≠q:=fun e=>by rw [e,Nat.beq_refl] at hkq;cases hkq
 obtain ⟨hn',hg,hR⟩:=(ok.ob k _ hk).2.2
 obtain ⟨hn2,hg2,hR2⟩:=(ok.ob q _ hq).2.2
 obtain ⟨A,c,l,Ψ,hA,hl,hrd,hll,hl1,hlen,hΨ,hΨd,hrel2⟩:=hR2.rd
 have ey:a.eval y=.slice A l.length c:=(ok.evr hy).2.sl_of.1.trans hA
 obtain ⟨v',w',hrun,q2,q3,hone,hR'⟩:=RowIs.app (P:=P) (ty:=o.type) (c:=c) (Y:=fun w ψ av u=>OW G.F w av u ψ) (φ2:=G.fp q) (Ψ:=Ψ) hR hT hi hz hn hby hzs (of_blt h0) hrd hl hll hl1 hR2.1 hlen (fun i j x h=>(hΨ i j x h).1) hΨd (fun x h1 h2=>hkq' (ok.dj k _ q _ x hk hq h1 h2))
  (fun x hx=>hx.elim (fun h=>(ok.my k _ x hk h).2) fun h=>(ok.my q _ x hq h).2) hrel2 (fun _ _ _ _ hw h=>h.keep (fun _ _ h=>h) hw) hb1 (Nat.le_of_ble_eq_true hb2)
 have ok':=ok.joined (gone:=[q]) (n:=n) (v':=v') (φ2:=G.fp q) (ob':=.rwn e n rows') (okd:=(ok.drop_ k).drop_ q) (fun i o h=>⟨(drop_look (drop_look h).2).1,(drop_look (drop_look h).2).2,by simp;exact (drop_look h).1⟩) rfl hk hR.fp (fun x h=>⟨q,_,by simp,hq,h⟩) q2 q3 hR'.lt
  ⟨with_n,(fun g hg=>by rw [with_h] at hg;rw [with_b,hg];rfl),by rw [with_h,with_f,← hrr];exact hR'⟩ trivial
 refine run_appendO ho (ok.evr hx).2.sl_of.1 ey hrun ?_
 rw [hds]
 subst hm
 exact hN _ _ _ (ok'.set (d:=some d) (av:=.sl σ.nk) (v:=v') (by have:=R.sl (G:=G.with σ.nk (v'.ownBlock.getD 0) n v' (fun x=>v'.ownBlock=some x∨G.fp k x∨G.fp q x)) σ.nk (by rw [with_h];exact hone);rw [with_h] at this;exact this) (.sl _ (Nat.lt_succ_self _)) fun x hx=>by cases hx;exact of_blt hd)
theorem Ok.nilRow (ok:Ok C σ G a w) (T:TypeId) (n:Nat):∃ G',Ok C (σ.new (.row T n [])) G' a w∧R G' (.sl σ.nk) (.slice none 0 0) :=
 ⟨_,ok.newObj (S:=fun _=>False) (b:=0) (n:=n) (h:=.slice none 0 0) (φ:=fun _=>False) (ob:=.row T n []) (Kept.refl _ w) (fun _ h=>h.elim) (fun _ _ _ _ _ h=>h) (fun _ _ _ h=>h)
  ⟨with_n,(fun g hg=>by rw [with_h] at hg;cases hg),by
   rw [with_h,with_f]
   exact ⟨by simp,[],fun _ _ _=>False,⟨by simp,.inl ⟨rfl,rfl⟩⟩,rfl,by simp,(fun g hg=>by cases hg),fun _ _ _ h=>h.elim,fun _ _ _ _ _ h=>h.elim,fun i r r' h=>by simp at h,fun i r r' j av u h=>by simp at h⟩⟩ trivial (fun x h=>h.elim),with_sl rfl⟩
theorem Ok.reslot (ok:Ok C σ G a w) {t:Tmp} {av av':AV} (h:look t σ.t=some av)(hb:Bd σ.nk av')(hr:∀ v,R G av v→R G av' v):Ok C (σ.put t av') G a w:=by
 have h1:=ok.tm t _ h
 refine⟨ok.sz,ok.df,fun i x hx=>?_,ok.bel,ok.fw,ok.f0,ok.f1,ok.ob,ok.my,ok.dj,ok.dF⟩
 by_cases e:i=t
 ·subst e
  rw [show look i (St.put σ i av').t=some av' from look_set_same] at hx
  cases hx
  exact⟨h1.1,hb,hr _ h1.2.2⟩
 ·rw [show look i (St.put σ t av').t=look i σ.t from look_set_other e] at hx
  exact ok.tm i x hx
theorem Ok.reob (ok:Ok C σ G a w) {k:Nat} {ob ob':AO} (hk:look k σ.M=some ob) (h:k<σ.nk∧ob'.bd σ.nk∧ObAt G w k ob'):Ok C (σ.upd k ob') G a w:=by
 have hl:∀ k' o,look k' (σ.upd k ob').M=some o→(k'=k∧o=ob')∨look k' σ.M=some o:=fun k' o hx=>by
  by_cases e:k'=k
  ·subst e
   rw [show look k' (σ.upd k' ob').M=some ob' from look_set_same] at hx
   cases hx
   exact .inl ⟨rfl,rfl⟩
  ·rw [show look k' (σ.upd k ob').M=look k' σ.M from look_set_other e] at hx
   exact .inr hx
 have some_:∀ k' o,look k' (σ.upd k ob').M=some o→∃ o',look k' σ.M=some o':=fun k' o h=>by
  rcases hl k' o h with⟨rfl,_⟩|y
  ·exact ⟨_,hk⟩
  ·exact ⟨o,y⟩
 refine ⟨ok.sz,ok.df,ok.tm,ok.bel,ok.fw,ok.f0,ok.f1,fun k' o h'=>?_,fun k' o x h1 h2=>?_,fun k1 o1 k2 o2 x h1 h2=>?_,fun k1 o1 x p u h1=>?_⟩
 ·rcases hl k' o h' with⟨rfl,rfl⟩|y
  ·exact h
  ·exact ok.ob k' o y
 ·obtain ⟨o',y⟩:=some_ k' o h1
  exact ok.my k' o' x y h2
 ·obtain ⟨o1',y1⟩:=some_ k1 o1 h1
  obtain ⟨o2',y2⟩:=some_ k2 o2 h2
  exact ok.dj k1 o1' k2 o2' x y1 y2
 ·obtain ⟨o1',y1⟩:=some_ k1 o1 h1
  exact ok.dF k1 o1' x p u y1
theorem Tr.nil {t:Tmp} {m:Nat} (T:TypeId)(n:Nat)(h:look t σ.t=some (.sc (.slice none 0 0)))(hm:σ.nk=m):Tr C σ ((σ.new (.row T n [])).put t (.sl m)):=fun G a w ok=>by
 obtain⟨G',ok',hsl⟩:=ok.nilRow T n
 subst hm
 exact⟨G',ok'.reslot (av:=.sc (.slice none 0 0)) h (.sl _ (Nat.lt_succ_self _)) fun v hv=>by rw [hv.sc_eq];exact hsl⟩
theorem Tr.widen (k:Nat) {T n:Nat} {rows:List (List AV)} (hk:look k σ.M=some (.row T n rows)):Tr C σ (σ.upd k (.rwn T n rows)):=fun G a w ok=>by
 obtain ⟨g1,g2,g3,g4,g5⟩:=ok.ob k _ hk
 exact ⟨G,ok.reob hk ⟨g1,trivial,g3,g4,g5.keep (fun _ _=>rfl) fun i r j av ψ u _ _ _ x=>.pu _ _ _ x⟩⟩
end
end
section
open Go.RowKit
def AV.frz0 (k n:Nat)(rows:List (List AV)):AV→AV
 | .sl q=>bif Nat.beq q k then .ls n rows else .sl q
 | av=>av
def AV.frz1 (k n:Nat)(rows:List (List AV)):AV→AV
 | .fn f l=>.fn f (l.map (AV.frz0 k n rows))
 | av=>av.frz0 k n rows
def AV.frz2 (k n:Nat)(rows:List (List AV)):AV→AV
 | .ag l=>.ag (l.map (AV.frz1 k n rows))
 | av=>av.frz1 k n rows
def AV.frz (k n:Nat)(rows:List (List AV)):AV→AV
 | .tu l=>.tu (l.map (AV.frz2 k n rows))
 | av=>av.frz2 k n rows
def AO.frz (k n:Nat)(rows:List (List AV)):AO→AO
 | .box T cells=>.box T (cells.map (AV.frz1 k n rows))
 | .rof T m rs hi hj x=>.rof T m rs hi hj (x.frz1 k n rows)
 | .rwo T m rs hi hj x=>.rwo T m rs hi hj (x.frz1 k n rows)
 | ob=>ob
def mapS {α β:Type} (f:α→β):List (Nat×α)→List (Nat×β)
 | []=>[]
 | x::r=>(x.1,f x.2)::mapS f r
theorem look_mapS {α β:Type} (f:α→β)(i:Nat):∀ (l:List (Nat×α)),look i (mapS f l)=(look i l).map f
 | []=>rfl
 | x::r=>by
  by_cases e:i=x.1
  ·subst e
   rw [show look x.1 (x::r)=some x.2 from look_set_same]
   exact look_set_same
  ·rw [show look i (x::r)=look i r from look_set_other e,← look_mapS f i r]
   exact look_set_other e
def St.freeze (σ:St) (k n:Nat) (rows:List (List AV)):St:=⟨mapS (AV.frz k n rows) σ.t,mapS (AO.frz k n rows) (rem k σ.M),σ.nk⟩
def AV.fz:Nat→AV→AV
 | d+1,.ow _ n rows=>.ls n (rows.map fun r=>r.map (AV.fz d))
 | _,av=>av
def AV.shal:Nat→AV→Bool
 | 0,.ow _ _ _=>false
 | d+1,.ow _ _ rows=>rows.all fun r=>r.all (AV.shal d)
 | _,_=>true
section
variable {P:Program} {C:Cx} {σ σ':St} {G G':Gh} {a:Act} {w w':World} {o:Oper} {d:Tmp}
theorem list_R {Q:AV→AV} {l:List AV} {cs:Array Value} (h1:cs.size=l.length)(h2:∀ (i:Nat) av u,l[i]?=some av→cs[i]?=some u→R G av u)(hq:∀ av u,R G av u→R G (Q av) u) :
  cs.size=(l.map Q).length∧∀ (i:Nat) av u,(l.map Q)[i]?=some av→cs[i]?=some u→R G av u:=by
 refine⟨by simpa using h1,fun i av u x y=>?_⟩
 rw [List.getElem?_map] at x
 cases hx:l[i]? with
 | none=>simp [hx] at x
 | some b=>simp [hx] at x;rw [← x];exact hq _ _ (h2 i b u hx y)
theorem list_bd {Q:AV→AV} {nk:Nat} {l:List AV} (h:∀ (i:Nat)x,l[i]?=some x→Bd nk x)(hq:∀ av,Bd nk av→Bd nk (Q av)):∀ (i:Nat)x,(l.map Q)[i]?=some x→Bd nk x:=fun i x hx=>by
 rw [List.getElem?_map]at hx
 cases hq':l[i]? with
 | none=>simp [hq']at hx
 | some y=>simp [hq']at hx;rw [← hx];exact hq _ (h i y hq')
section
variable {k n nk:Nat} {rows:List (List AV)} {av:AV} {v:Value}
theorem frz0_R (h:R G (.ls n rows) (G.h k)) (r:R G av v):R G (av.frz0 k n rows) v:=by
 cases av with
 | sl q =>
  simp only [AV.frz0]
  cases e:Nat.beq q k with
  | true=>obtain rfl:=Nat.eq_of_beq_eq_true e;rw [r.sl_of.1];exact h
  | false=>exact r
 | _=>exact r
theorem frz0_bd (b:Bd nk av):Bd nk (av.frz0 k n rows):=by
 cases av with
 | sl q =>
  simp only [AV.frz0]
  cases e:Nat.beq q k with
  | true=>exact .ls _ _
  | false=>exact b
 | _=>exact b
theorem frz1_R (h:R G (.ls n rows) (G.h k)) (r:R G av v):R G (av.frz1 k n rows) v:=by
 cases av with
 | fn f l =>
  obtain ⟨cs,rfl,h1,h2⟩:=r.fn_of
  obtain ⟨q1,q2⟩:=list_R h1 h2 fun _ _=>frz0_R h
  exact .fn f _ cs q1 q2
 | sl q=>exact frz0_R (av:=.sl q) h r
 | _=>exact r
theorem frz1_bd (b:Bd nk av):Bd nk (av.frz1 k n rows):=by
 cases av with
 | fn f l=>cases b with|fn _ _ hb=>exact .fn f _ (list_bd hb fun _=>frz0_bd)
 | sl q=>exact frz0_bd (av:=.sl q) b
 | _=>exact b
theorem frz2_R (h:R G (.ls n rows) (G.h k)) (r:R G av v):R G (av.frz2 k n rows) v:=by
 cases av with
 | ag l =>
  obtain ⟨cs,rfl,h1,h2⟩:=r.ag_of
  obtain ⟨q1,q2⟩:=list_R h1 h2 fun _ _=>frz1_R h
  exact .ag _ cs q1 q2
 | fn f l=>exact frz1_R (av:=.fn f l) h r
 | sl q=>exact frz0_R (av:=.sl q) h r
 | _=>exact r
theorem frz2_bd (b:Bd nk av):Bd nk (av.frz2 k n rows):=by
 cases av with
 | ag l=>cases b with|ag _ hb=>exact .ag _ (list_bd hb fun _=>frz1_bd)
 | fn f l=>exact frz1_bd (av:=.fn f l) b
 | sl q=>exact frz0_bd (av:=.sl q) b
 | _=>exact b
theorem frz_R (h:R G (.ls n rows) (G.h k)) (r:R G av v):R G (av.frz k n rows) v:=by
 cases av with
 | tu l =>
  obtain ⟨cs,rfl,h1,h2⟩:=r.tu_of
  obtain ⟨q1,q2⟩:=list_R h1 h2 fun _ _=>frz2_R h
  exact .tu _ cs q1 q2
 | ag l=>exact frz2_R (av:=.ag l) h r
 | fn f l=>exact frz1_R (av:=.fn f l) h r
 | sl q=>exact frz0_R (av:=.sl q) h r
 | _=>exact r
theorem frz_bd (b:Bd nk av):Bd nk (av.frz k n rows):=by
 cases av with
 | tu l=>cases b with|tu _ hb=>exact .tu _ (list_bd hb fun _=>frz2_bd)
 | ag l=>exact frz2_bd (av:=.ag l) b
 | fn f l=>exact frz1_bd (av:=.fn f l) b
 | sl q=>exact frz0_bd (av:=.sl q) b
 | _=>exact b
theorem frz1_C {φ:Nat→Prop} (h:R G (.ls n rows) (G.h k)) (r:CR G w φ av v):CR G w φ (av.frz1 k n rows) v:=by
 rcases r with r|o
 ·exact .inl (frz1_R h r)
 ·by_cases ho:av.own=true
  ·cases av with
   | ow T n rows=>exact .inr o
   | _=>cases ho
  ·exact .inl (frz1_R h (.pu _ _ (OW.p o (by simpa using ho))))
end
theorem RowIs.fix {T n:Nat} {rows:List (List AV)} {v:Value} {φ:Nat→Prop} {X:Nat→Nat→(Nat→Prop)→AV→Value→Prop} {F':View} (f:AV→AV) (h:RowIs w T n rows v φ X) (hF:∀ p,φ p.block→F' p=w.cell? p)
    (hX:∀ (i:Nat) r (j:Nat) av u ψ,rows[i]?=some r→r[j]?=some av→(∀ x,ψ x→φ x)→X i j ψ av u→RP F' (f av) u):RP F' (.ls n (rows.map fun r=>r.map f)) v:=by
  have hfp:=h.2
  obtain ⟨vs0,_,_,_,_,hgf,_⟩:=hfp
  obtain ⟨A,c,vs,Φ,hA,h5,hrd,hvl,h7,h8,hΦ,_,h6⟩:=h.rd
  have hrl:=h.1
  have h4:=h.2
  obtain ⟨vs1,Φ1,h4,h51,_⟩:=h4
  have hcap:rows.length≤c:=by
    rcases h4.2 with⟨e,e2⟩|⟨g,cap,cur,e,_,_,hnc,_⟩
    · omega
    · rw [e] at hA;injection hA with _ _ hA;omega
  have hgA:∀ ad,A=some ad→φ ad.block:=fun ad e=>by
    rcases h4.2 with⟨e1,e2⟩|⟨g,cap,cur,e1,_⟩
    · rw [e1,e] at hA;cases hA
    · rw [e1,e] at hA;injection hA with hA _ _;cases hA
      exact hgf g (by rw [e1];rfl)
  have hv:v=.slice A (rows.map fun r=>r.map f).length c:=by rw [hA,List.length_map,h5]
  rw [hv]
  by_cases hp:0<rows.length
  · obtain ⟨ad,had,_⟩:=hrd zqo
    refine .ls n _ A c ad (fun i j=>((vs.getD i []).getD j undef)) (by simpa using hcap) (fun r hr=>?_) (fun _=>had) (fun i r j av hr hav=>?_) (fun i r j av hr hav=>?_)
    · obtain ⟨r',hr',rfl⟩:=List.mem_map.1 hr
      rw [List.length_map];exact hrl _ hr'
    all_goals
      rw [List.getElem?_map] at hr
      cases hr0:rows[i]? with
      | none=>simp [hr0] at hr
      | some r0 =>
        simp only [hr0,Option.map_some,Option.some.injEq] at hr
        subst hr
        rw [List.getElem?_map] at hav
        cases hav0:r0[j]? with
        | none=>simp [hav0] at hav
        | some av0 =>
          simp only [hav0,Option.map_some,Option.some.injEq] at hav
          subst hav
          have hi:i<rows.length:=(List.getElem?_eq_some_iff.1 hr0).1
          have hv:vs[i]?=some vs[i]:=List.getElem?_eq_getElem (by omega)
          have e1:=h8 i r0 _ hr0 hv
          have hj:j<vs[i].length:=by rw [e1];exact (List.getElem?_eq_some_iff.1 hav0).1
          have hu:(vs.getD i []).getD j undef=vs[i][j]:=by simp [List.getD,hv,hj]
          simp only [hu]
          first
            | (refine ⟨?_,h7 _ (List.getElem_mem _) _ (List.getElem_mem _)⟩
               obtain ⟨ad',had',_,hc⟩:=Rd.at_ (k:=i) hrd zqo
               obtain rfl:ad'=ad:=by rw [had] at had';exact (Option.some.inj had').symm
               rw [hF _ (by rw [block_of_add];exact hgA _ had)]
               exact hc j _ (List.getElem?_eq_getElem hj))
            |exact hX i r0 j av0 _ _ hr0 hav0 (fun x hx=>(hΦ i j x hx).1) (h6 i r0 _ j av0 _ hr0 hv hav0 (List.getElem?_eq_getElem hj))
  · have h0:rows=[]:=List.eq_nil_of_length_eq_zero zqo
    subst h0
    exact .ls n [] A c ⟨0,0,none⟩ (fun _ _=>undef) (by simp) (by simp) (fun h=>absurd h (by simp)) (fun i r j av h=>by simp at h) (fun i r j av h=>by simp at h)
theorem fz_pu {d:Nat} {av:AV} (h:av.own=false):av.fz d=av:=by
 cases d<;>cases av<;>first|rfl|cases h
theorem OW.fix {F F':View} (hle:F.le F'):∀ (d:Nat) {av:AV} {v:Value} {φ:Nat→Prop},OW F w av v φ→(∀ p,φ p.block→F' p=w.cell? p)→av.shal d=true→RP F' (av.fz d) v
 | d,av,v,φ,h,hF,hs=>by
  by_cases ho:av.own=true
  ·cases av with
   | ow T n rows =>
    cases d with
    | zero=>cases hs
    | succ d =>
     refine RowIs.fix (AV.fz d) h.row hF fun i r j av u ψ hr hav hψ x=>?_
     have h1:(rows.all fun r=>r.all (AV.shal d))=true:=hs
     have h2:=List.all_eq_true.1 (List.all_eq_true.1 h1 r (List.mem_of_getElem? hr)) av (List.mem_of_getElem? hav)
     exact OW.fix hle d x (fun p hp=>hF p (hψ _ hp)) h2
   | _=>cases ho
  ·rw [fz_pu (by simpa using ho)]
   exact (h.p (by simpa using ho)).mono hle
theorem Tr.freezeG (k:Nat) {n:Nat} {rows':List (List AV)} {ob:AO} (hk:look k σ.M=some ob) (hls:∀ G w (F':View),ObAt G w k ob→G.F.le F'→(∀ p,G.fp k p.block→F' p=w.cell? p)→RP F' (.ls n rows') (G.h k)):Tr C σ (σ.freeze k n rows'):=fun G a w ok=>by
 obtain ⟨hkn,_,hob⟩:=ok.ob k _ hk
 classical
 let F':View:=fun p=>if G.fp k p.block then w.cell? p else G.F p
 have hF:G.F.le F':=fun p u h=>by
  show (if _ then _ else _)=_
  rw [if_neg (fun e=>ok.dF k _ p.block p u hk e h rfl)];exact h
 have hFn:∀ p u,F' p=some u→G.F p=some u∨(G.fp k p.block∧w.cell? p=some u):=fun p u h=>by
  have h:(if G.fp k p.block then w.cell? p else G.F p)=some u:=h
  by_cases e:G.fp k p.block
  ·rw [if_pos e] at h;exact .inr ⟨e,h⟩
  ·rw [if_neg e] at h;exact .inl h
 have hls:=hls G w F' hob hF (fun p hp=>if_pos hp)
 have hle:G.le { G with F:=F' } σ.nk:=⟨hF,fun _ _=>rfl,fun _ _=>rfl,fun _ _=>rfl⟩
 have hls':R { G with F:=F' } (.ls n rows') (({ G with F:=F' }:Gh).h k):=.pu _ _ hls
 have hl:∀ i ob,look i (σ.freeze k n rows').M=some ob→∃ ob0,i≠k∧look i σ.M=some ob0∧ob=ob0.frz k n rows':=fun i ob h=>by
  rw [show look i (σ.freeze k n rows').M=_ from look_mapS _ i _,look_rem] at h
  by_cases e:i=k
  ·rw [if_pos e] at h;cases h
  ·rw [if_neg e] at h
   cases hq:look i σ.M with
   | none=>simp [hq] at h
   | some ob0=>simp [hq] at h;exact ⟨ob0,e,rfl,h.symm⟩
 refine ⟨{ G with F:=F' },ok.sz,ok.df,fun i av h=>?_,ok.bel,fun p u h=>?_,fun p u h=>hF p u (ok.f0 p u h),fun p u h=>?_,fun i ob h=>?_,fun i o x h1 h2=>?_,?_,?_⟩
 ·rw [show look i (σ.freeze k n rows').t=_ from look_mapS _ i _] at h
  cases hq:look i σ.t with
  | none=>simp [hq] at h
  | some av0 =>
   simp [hq] at h
   obtain ⟨h1,h2,h3⟩:=ok.tm i av0 hq
   rw [← h]
   exact ⟨h1,frz_bd h2,frz_R hls' (h3.mono hle h2)⟩
 ·rcases hFn p u h with h|⟨_,h⟩
  ·exact ok.fw p u h
  ·exact h
 ·rcases hFn p u h with h|⟨h,_⟩
  ·exact ok.f1 p u h
  ·exact .inr (ok.my k _ _ hk h).1
 ·obtain ⟨ob0,e,h0,rfl⟩:=hl i ob h
  obtain ⟨g1,g2,g3⟩:=ok.ob i ob0 h0
  have g4:=g3.keep (w':=w) (G':={ G with F:=F' }) hle g1 g2 rfl (fun _ _=>rfl)
  refine ⟨g1,?_,?_⟩
  ·cases ob0 with
   | box T cells=>exact list_bd g2 fun _=>frz1_bd
   | rof T m rs hi hj y=>exact frz1_bd g2
   | rwo T m rs hi hj y=>exact frz1_bd g2
   | _=>exact g2
  ·cases ob0 with
   | box T cells =>
    obtain ⟨b1,cs,Φ,b2,b3,b4,b5,b6⟩:=g4
    refine ⟨b1,cs,Φ,b2,by simpa using b3,b4,b5,fun j av u x y=>?_⟩
    rw [List.getElem?_map] at x
    cases hq:cells[j]? with
    | none=>simp [hq] at x
    | some b=>simp [hq] at x;rw [← x];exact frz1_C hls' (b6 j b u hq y)
   | rof T m rs hi hj y =>
    obtain ⟨c1,c2,c3⟩:=g4
    refine ⟨c1,c2,c3.keep (fun _ _=>rfl) fun i r j av ψ u _ _ _ x=>?_⟩
    unfold XH at x ⊢
    by_cases e:i=hi∧j=hj
    ·rw [if_pos e] at x ⊢
     exact frz1_R hls' x
    ·rw [if_neg e] at x ⊢
     exact x
   | rwo T m rs hi hj y =>
    obtain ⟨c1,c2,c3⟩:=g4
    refine ⟨c1,c2,c3.keep (fun _ _=>rfl) fun i r j av ψ u _ _ _ x=>?_⟩
    unfold XQ at x ⊢
    by_cases e:i=hi∧j=hj
    ·rw [if_pos e] at x ⊢
     exact frz1_R hls' x
    ·rw [if_neg e] at x ⊢
     exact x
   | _=>exact g4
 ·obtain ⟨ob0,e,h0,rfl⟩:=hl i o h1
  exact ok.my i ob0 x h0 h2
 ·intro i o i' o' x h1 h2 h3 h4
  obtain ⟨ob0,e,h0,rfl⟩:=hl i o h1
  obtain ⟨ob0',e',h0',rfl⟩:=hl i' o' h2
  exact ok.dj i ob0 i' ob0' x h0 h0' h3 h4
 ·intro i o x p u h1 h2 h3
  obtain ⟨ob0,e,h0,rfl⟩:=hl i o h1
  rcases hFn p u h3 with h|⟨h,_⟩
  ·exact ok.dF i ob0 x p u h0 h2 h
  ·intro e2
   exact e (ok.dj i ob0 k _ x h0 hk h2 (by rw [← e2];exact h))
theorem Tr.freeze (k:Nat) {T n:Nat} {rows:List (List AV)} (hk:look k σ.M=some (.row T n rows)):Tr C σ (σ.freeze k n rows) :=
 Tr.freezeG k hk fun G w F' h hle hF=>by
  have:=RowIs.fix (F':=F') id h.2.2 hF fun i r j av u ψ _ _ _ x=>RP.mono hle x
  simpa using this
end
end
section
open Go.RowKit
def onlyT (t:List (Nat×AV)):List Nat→List (Nat×AV)
 | []=>[]
 | x::r =>
  match look x t with
  | some av=>(x,av)::onlyT t r
  | none=>onlyT t r
def St.only(σ:St)(ts:List Nat):St:={ σ with t:=onlyT σ.t ts }
theorem look_onlyT {t:List (Nat×AV)} {i:Nat} {av:AV}:∀ {ts:List Nat},look i (onlyT t ts)=some av→look i t=some av
 | [],h=>by cases h
 | x::r,h=>by
  unfold onlyT at h
  cases hx:look x t with
  | none=>rw [hx]at h;exact look_onlyT h
  | some a =>
   rw [hx]at h
   by_cases e:i=x
   ·subst e
    rw [look_set_same]at h
    rw [hx];exact h
   ·rw [look_set_other e]at h;exact look_onlyT h
theorem onlyT_congr {t t':List (Nat×AV)}:∀ {ts:List Nat},(∀ x∈ts,look x t=look x t')→onlyT t ts=onlyT t' ts
 | [],_=>rfl
 | x::r,h=>by
  unfold onlyT
  rw [h x (by simp),onlyT_congr fun y hy=>h y (by simp [hy])]
section
variable {P:Program} {C:Cx} {σ σ':St} {G G':Gh} {a:Act} {w w':World} {ops:Array Oper} {Q:Exit→St→Prop}
theorem Ok.only_ (ok:Ok C σ G a w)(ts:List Nat):Ok C (σ.only ts) G a w :=
 ⟨ok.sz,ok.df,fun i av h=>ok.tm i av (look_onlyT h),ok.bel,ok.fw,ok.f0,ok.f1,ok.ob,ok.my,ok.dj,ok.dF⟩
theorem Ok.congr_ (ok:Ok C σ G a w) (h:∀ t,look t σ'.t=look t σ.t) (hM:σ'.M=σ.M) (hn:σ'.nk=σ.nk):Ok C σ' G a w :=
 ⟨ok.sz,by rw [hn];exact ok.df,fun i av x=>by rw [hn];exact ok.tm i av (by rw [← h];exact x),ok.bel,ok.fw,ok.f0,ok.f1,fun k o x=>by rw [hn];exact ok.ob k o (by rw [← hM];exact x),fun k o x a=>ok.my k o x (by rw [← hM];exact a),fun k o k' o' x a b=>ok.dj k o k' o' x (by rw [← hM];exact a) (by rw [← hM];exact b),fun k o x p u a=>ok.dF k o x p u (by rw [← hM];exact a)⟩
def guardK (ops:Array Oper)(o:Oper)(σ:St):Option Bool :=
 match o.guard with
 | none=>some true
 | some (j,b) =>
  match (ops[j]?).bind (·.dst)with
  | some d =>
   match look d σ.t with
   | some (.sc v)=>some (match vb v with|some c=>c == b|none=>false)
   | _=>none
  | none=>none
theorem guardK_wanted {o:Oper} {b:Bool} (ok:Ok C σ G a w)(h:guardK ops o σ=some b):Region.wanted o (yielded ops a.tmps)=b:=by
 unfold guardK at h
 unfold Region.wanted
 cases hg:o.guard with
 | none=>rw [hg]at h;cases h;rfl
 | some x =>
  obtain⟨j,c⟩:=x
  rw [hg]at h
  simp only at h ⊢
  cases hj:ops[j]? with
  | none=>simp [hj]at h
  | some oj =>
   cases hd:oj.dst with
   | none=>simp [hj,hd]at h
   | some d =>
    simp only [hj,Option.bind_some,hd]at h
    cases hv:look d σ.t with
    | none=>simp [hv]at h
    | some av =>
     cases av with
     | sc v =>
      simp only [hv]at h
      cases h
      rw [yielded_of ok hj hd hv]
      cases vb v with
      | none=>rfl
      | some c'=>cases c'<;>cases c<;>rfl
     | _=>simp [hv]at h
def Does (P:Program)(C:Cx)(ops:Array Oper)(o:Oper)(σ:St)(av:AV):Prop :=
 (guardK ops o (σ.only (o.looksAt ops))=some true∧WV P C o (σ.only (o.looksAt ops)) av)∨(guardK ops o (σ.only (o.looksAt ops))=some false∧av=.sc undef)
theorem Does.congr_ {o:Oper} {av:AV} (h:Does P C ops o σ av)(hl:∀ t∈o.looksAt ops,look t σ.t=look t σ'.t)(hM:σ'.M=σ.M)(hn:σ'.nk=σ.nk):Does P C ops o σ' av:=by
 have e:σ'.only (o.looksAt ops)=σ.only (o.looksAt ops):=by
  unfold St.only
  rw [hM,hn,onlyT_congr fun x hx=>(hl x hx).symm]
 unfold Does
 rw [e];exact h
inductive DL (P:Program)(C:Cx)(ops:Array Oper):List Oper→St→St→Prop
 | nil (σ:St):DL P C ops [] σ σ
 | op (o:Oper)(rest:List Oper)(d:Tmp)(av:AV)(σ σ':St):o.dst=some d→Nat.blt d C.N=true→Does P C ops o σ av→DL P C ops rest (σ.put d av) σ'→DL P C ops (o::rest) σ σ'
def ent1 (o:Option Tmp)(b:Bool)(av:AV):List (Nat×AV) :=
 match b,o with
 | true,some d=>[(d,av)]
 | _,_=>[]
theorem look_ent1 (t:Nat) (o:Option Tmp) (b:Bool) (av:AV):look t (ent1 o b av)=if b=true∧o=some t then some av else none:=by
 cases b with
 | false=>simp [ent1,look]
 | true =>
  cases o with
  | none=>simp [ent1,look]
  | some d =>
   by_cases e:t=d
   ·subst e;rw [if_pos ⟨rfl,rfl⟩];exact look_set_same
   ·rw [if_neg (fun h=>e (by injection h.2 with h;exact h.symm))]
    show look t [(d,av)]=none
    rw [look_set_other e];rfl
def ents (ops:Array Oper) (avs:Nat→AV) (s:Nat→Bool):Nat→List (Nat×AV)
 | 0=>[]
 | m+1=>ent1 ((ops[m]?).bind (·.dst)) (s m) (avs m)++ents ops avs s m
theorem look_app {α:Type} (i:Nat):∀ (l m:List (Nat×α)),look i (l++m)=(look i l).or (look i m)
 | [],m=>rfl
 | x::r,m=>by
  by_cases e:i=x.1
  ·subst e
   rw [List.cons_append,look_set_same,look_set_same];rfl
  ·rw [List.cons_append,look_set_other e,look_set_other e,look_app i r m]
theorem ents_agree {avs:Nat→AV} {s s':Nat→Bool} {t:Nat}:∀ {m:Nat},(∀ i,i<m→(ops[i]?).bind (·.dst)=some t→s i=s' i)→look t (ents ops avs s m)=look t (ents ops avs s' m)
 | 0,_=>rfl
 | m+1,h=>by
  have ih:=ents_agree (avs:=avs) (s:=s) (s':=s') (t:=t) (m:=m) fun i hi hd=>h i zqo hd
  unfold ents
  rw [look_app,look_app,ih,look_ent1,look_ent1]
  by_cases e:(ops[m]?).bind (·.dst)=some t
  ·rw [h m (by omega) e]
  ·rw [if_neg (fun x=>e x.2),if_neg (fun x=>e x.2)]
theorem ents_none {avs:Nat→AV} {s:Nat→Bool} {t:Nat}:∀ {m:Nat},(∀ i,i<m→(ops[i]?).bind (·.dst)=some t→s i=false)→look t (ents ops avs s m)=none
 | 0,_=>rfl
 | m+1,h=>by
  have ih:=ents_none (avs:=avs) (s:=s) (t:=t) (m:=m) fun i hi hd=>h i zqo hd
  unfold ents
  rw [look_app,ih,look_ent1,if_neg]
  ·rfl
  ·intro x
   rw [h m (by omega) x.2] at x
   cases x.1
theorem ents_top {avs:Nat→AV} {s:Nat→Bool} {t j:Nat}:∀ {m:Nat},j<m→(ops[j]?).bind (·.dst)=some t→s j=true→(∀ i,j<i→i<m→(ops[i]?).bind (·.dst)=some t→s i=false)→look t (ents ops avs s m)=some (avs j)
 | 0,h,_,_,_=>by omega
 | m+1,hj,hd,hs,h=>by
  unfold ents
  rw [look_app,look_ent1]
  by_cases e:j=m
  ·subst e
   rw [if_pos ⟨hs,hd⟩];rfl
  ·have ih:=ents_top (avs:=avs) (s:=s) (t:=t) (j:=j) (m:=m) zqo hd hs fun i h1 h2=>h i h1 zqo
   rw [ih,if_neg]
   ·rfl
   ·intro x
    rw [h m (by omega) (by omega) x.2] at x
    cases x.1
theorem lex_facts {md:Region.Mode}:∀ (m k:Nat) (listed:Array Bool),ops.size=k+m→listed.size=ops.size→(∀ i,i<ops.size→listed.getD i true=decide (i<k))→Region.lexFrom md ops m k listed=true →
  (∀ j oj,k≤j→ops[j]?=some oj→∀ e∈oj.after,Region.binds md e=true→e.on<j) ∧
  (∀ i j oi oj,k≤i→i<j→ops[i]?=some oi→ops[j]?=some oj→(∀ e∈oj.after,Region.binds md e=true→e.on≠i)→oi.apart ops oj=true)
 | 0,k,listed,hk,_,_,_=>⟨fun j oj h h'=>by have:=(Array.getElem?_eq_some_iff.1 h').1;omega,fun i j oi oj h h1 h2=>by have:=(Array.getElem?_eq_some_iff.1 h2).1;omega⟩
 | m+1,k,listed,hk,hsz,hl,h=>by
  simp only [Region.lexFrom,Bool.and_eq_true] at h
  obtain ⟨⟨hr,hf⟩,hrest⟩:=h
  have ih:=lex_facts m (k+1) (listed.setIfInBounds k true) (by omega) (by simpa using hsz) (fun i hi=>by
   by_cases e:k=i
   ·subst e;simp [hsz,hi]
   ·rw [show (listed.setIfInBounds k true).getD i true=listed.getD i true from by simp [Array.getD_eq_getD_getElem?,Array.getElem?_setIfInBounds_ne e],hl i hi]
    have:(i<k)↔(i<k+1):=by omega
    simp [this]) hrest
  have hmem:k∈Region.ready md ops listed:=by simpa using hr
  obtain ⟨_,o,ho,hall⟩:=mem_ready.1 hmem
  refine ⟨fun j oj hj hoj e he hb=>?_,fun i j oi oj hi hij hoi hoj hno=>?_⟩
  ·by_cases e2:j=k
   ·subst e2
    rw [ho] at hoj
    cases hoj
    have h1:=hall e he hb
    by_cases hlt:e.on<ops.size
    ·have h2:=hl e.on hlt
     have h3:listed.getD e.on false=listed.getD e.on true:=by simp [Array.getD_eq_getD_getElem?,hsz,hlt]
     rw [h3,h2] at h1
     exact of_decide_eq_true h1
    ·have:listed.getD e.on false=false:=by simp [Array.getD_eq_getD_getElem?,hsz,hlt]
     rw [this] at h1;cases h1
   ·exact ih.1 j oj zqo hoj e he hb
  ·by_cases e2:i=k
   ·subst e2
    have hjlt:=(Array.getElem?_eq_some_iff.1 hoj).1
    exact Region.free_spec hoi hf j oj hoj (by omega) (by rw [hl j hjlt];simp;omega) hno
   ·exact ih.2 i j oi oj zqo hij hoi hoj hno
theorem DL.data {l:List Oper} {σ σ':St} (h:DL P C ops l σ σ'):∃ avs:Nat→AV,σ'={ σ with t:=ents l.toArray avs (fun _=>true) l.length++σ.t } ∧
  ∀ j oj,l[j]?=some oj→∃ d,oj.dst=some d∧d<C.N∧Does P C ops oj { σ with t:=ents l.toArray avs (fun _=>true) j++σ.t } (avs j):=by
 induction h with
 | nil σ=>exact ⟨fun _=>.sc undef,rfl,fun j oj h=>by simp at h⟩
 | op o rest d av σ σ' hd hN hdo _ ih =>
  obtain ⟨avs,e1,e2⟩:=ih
  have key:∀ m,m≤rest.length→ents (o::rest).toArray (fun j=>if j=0 then av else avs (j-1)) (fun _=>true) (m+1)=ents rest.toArray avs (fun _=>true) m++[(d,av)]:=by
   intro m
   induction m with
   | zero=>intro _;simp [ents,ent1,hd]
   | succ m ihm =>
    intro hm
    rw [ents,ihm (by omega),ents]
    simp
  refine ⟨fun j=>if j=0 then av else avs (j-1),?_,fun j oj hj=>?_⟩
  ·rw [e1,List.length_cons,key _ (Nat.le_refl _)]
   simp [St.put]
  ·cases j with
   | zero=>cases hj;exact ⟨d,hd,of_blt hN,by simpa [ents] using hdo⟩
   | succ j =>
    have hj':rest[j]?=some oj:=by simpa using hj
    obtain ⟨d',q1,q2,q3⟩:=e2 j oj hj'
    refine ⟨d',q1,q2,?_⟩
    rw [key j (by have:=(List.getElem?_eq_some_iff.1 hj').1;omega)]
    simpa [St.put] using q3
theorem rep_getD(n j:Nat):(Array.replicate n false).getD j false=false:=by
 unfold Array.getD
 split<;>simp
theorem countP_lt {p q:Nat→Bool} (h:∀ i,q i=true→p i=true):∀ {n j:Nat},j<n→p j=true→q j=false→(List.range n).countP q<(List.range n).countP p
 | 0,_,hj,_,_=>by omega
 | n+1,j,hj,hp,hq=>by
  rw [List.range_succ,List.countP_append,List.countP_append]
  have hle:(List.range n).countP q≤(List.range n).countP p:=List.countP_mono_left fun x _ hx=>h x hx
  by_cases e:j=n
  ·subst e
   have a1:[j].countP q=0:=by simp [hq]
   have a2:[j].countP p=1:=by simp [hp]
   omega
  ·have:=countP_lt h (n:=n) (j:=j) zqo hp hq
   have h1:[n].countP q≤[n].countP p:=List.countP_mono_left fun x _ hx=>h x hx
   omega
def WA (P:Program)(C:Cx)(ops:Array Oper)(σ:St)(Q:Exit→St→Prop):Prop:=∀ G a w,Ok C σ G a w→wpAny P .any ops (Post C Q) ops.size (Array.replicate ops.size false) a { w with drawn:=w.drawn+1 }
theorem W.of_wa {id:Nat} (hm:P.follows .mixedOrders=true)(h:WA P C ops σ Q):W P C (.region id ops true) σ Q:=fun G a w ok=>wp_region_any hm (h G a w ok)
theorem WA.draw {l:List Oper} (hB:Region.lexB .any l.toArray=true) (h:DL P C l.toArray l σ σ') (k:Q .normal σ'):WA P C l.toArray σ Q:=by
 intro G a w ok
 obtain ⟨avs,e1,e2⟩:=h.data
 simp only [Region.lexB,Bool.and_eq_true] at hB
 obtain ⟨FA,FB⟩:=lex_facts (ops:=l.toArray) l.toArray.size 0 (Array.replicate l.toArray.size false) (by simp) (by simp) (fun i hi=>by simp [Array.getD_eq_getD_getElem?,hi] at hi ⊢;simp [hi]) hB.2
 have sz:l.toArray.size=l.length:=by simp
 let KS:Array Bool→St:=fun listed=>{ σ with t:=ents l.toArray avs (fun i=>listed.getD i false) l.length++σ.t }
 have key:∀ (fuel:Nat) (listed:Array Bool) (G:Gh) (a:Act) (w:World),listed.size=l.length→(∀ j oj,l[j]?=some oj→listed.getD j false=true→∀ e∈oj.after,Region.binds .any e=true→listed.getD e.on false=true) →
   (List.range l.length).countP (fun i=>!listed.getD i false)≤fuel→Ok C (KS listed) G a w→wpAny P .any l.toArray (Post C Q) fuel listed a w:=by
  intro fuel
  have done:∀ (listed:Array Bool) (G:Gh) (a:Act) (w:World),listed.size=l.length→Region.ready .any l.toArray listed=[]→Ok C (KS listed) G a w→Post C Q .normal a w:=by
   intro listed G a w hsz hr ok
   have hall:∀ n i,i < n→i < l.length→listed.getD i false=true:=by
    intro n
    induction n with
    | zero=>intro i h;omega
    | succ n ih =>
     intro i hi hlt
     by_cases e:i < n
     ·exact ih i e hlt
     ·have hin:i=n:=by omega
      subst hin
      cases hli:listed.getD i false with
      | true=>rfl
      | false =>
       have hoi:l.toArray[i]?=some l[i]:=by simp [hlt]
       have:i∈Region.ready .any l.toArray listed:=mem_ready.2 ⟨by
        have:listed.getD i true=listed.getD i false:=by simp [Array.getD_eq_getD_getElem?,hsz,hlt]
        rw [this];exact hli,l[i],hoi,fun e he hb=>ih e.on (FA i l[i] (Nat.zero_le _) hoi e he hb) (by have:=FA i l[i] (Nat.zero_le _) hoi e he hb;omega)⟩
       rw [hr] at this;cases this
   refine ⟨σ',G,k,ok.congr_ (fun t=>?_) (by rw [e1]) (by rw [e1])⟩
   rw [e1]
   show look t (_++_)=look t (_++_)
   rw [look_app,look_app,ents_agree (s':=fun i=>listed.getD i false) fun i hi _=>(hall (i+1) i (by omega) hi).symm]
  induction fuel with
  | zero =>
   intro listed G a w hsz hcl hf ok
   have hr:Region.ready .any l.toArray listed=[]:=by
    apply List.eq_nil_iff_forall_not_mem.2
    intro j hj
    obtain ⟨h1,oj,h2,_⟩:=mem_ready.1 hj
    have hlt:j < l.length:=by have:=(Array.getElem?_eq_some_iff.1 h2).1;omega
    have h3:listed.getD j false=false:=by
     have:listed.getD j false=listed.getD j true:=by simp [Array.getD_eq_getD_getElem?,hsz,hlt]
     rw [this];exact h1
    have:=List.countP_eq_zero.1 (Nat.le_zero.1 hf) j (List.mem_range.2 hlt)
    simp [h3] at this
   exact ⟨hr,done listed G a w hsz hr ok⟩
  | succ fuel ih =>
   intro listed G a w hsz hcl hf ok
   refine ⟨fun hr=>done listed G a w hsz hr ok,fun j hj=>?_⟩
   obtain ⟨h1,oj,h2,h4⟩:=mem_ready.1 hj
   have hlt:j < l.length:=by have:=(Array.getElem?_eq_some_iff.1 h2).1;omega
   have h3:listed.getD j false=false:=by
    have:listed.getD j false=listed.getD j true:=by simp [Array.getD_eq_getD_getElem?,hsz,hlt]
    rw [this];exact h1
   have hlj:l[j]?=some oj:=by simpa using h2
   obtain ⟨d,hd,hdN,hdoes⟩:=e2 j oj hlj
   have hlook:∀ t∈oj.looksAt l.toArray,∀ i,i < l.length→(l.toArray[i]?).bind (·.dst)=some t→listed.getD i false=decide (i < j):=by
    intro t ht i hi hdi
    have hoi:l.toArray[i]?=some l[i]:=by simp [hi]
    rw [hoi] at hdi
    have hdi:l[i].dst=some t:=hdi
    rcases Nat.lt_trichotomy i j with hij|hij|hij
    ·rw [decide_eq_true hij]
     by_cases hno:∃ e,e∈oj.after∧Region.binds .any e=true∧e.on=i
     ·obtain ⟨e,he,hb,rfl⟩:=hno
      exact h4 e he hb
     ·exact absurd ht ((Oper.apart_spec (FB i j _ _ (Nat.zero_le _) hij hoi h2 fun e he hb h=>hno ⟨e,he,hb,h⟩)).1 t hdi)
    ·subst hij;rw [h3];simp
    ·rw [decide_eq_false (by omega)]
     cases hli:listed.getD i false with
     | false=>rfl
     | true =>
      by_cases hno:∃ e,e∈(l[i]).after∧Region.binds .any e=true∧e.on=j
      ·obtain ⟨e,he,hb,he2⟩:=hno
       have:=hcl i _ (by simp [hi]) hli e he hb
       rw [he2,h3] at this;cases this
      ·exact absurd ht ((Oper.apart_spec (FB j i _ _ (Nat.zero_le _) hij h2 hoi fun e he hb h=>hno ⟨e,he,hb,h⟩)).2.2 t hdi)
   have hents:∀ t,look t (ents l.toArray avs (fun _=>true) j)=look t (ents l.toArray avs (fun i=>decide (i < j)) l.length):=by
    intro t
    have:∀ m,j≤m→look t (ents l.toArray avs (fun i=>decide (i < j)) m)=look t (ents l.toArray avs (fun i=>decide (i < j)) j):=by
     intro m
     induction m with
     | zero=>intro h;rw [Nat.le_zero.1 h]
     | succ m ihm =>
      intro h
      by_cases e:j=m+1
      ·rw [e]
      ·rw [ents,look_app,look_ent1,if_neg (fun x=>by have:=of_decide_eq_true x.1;omega),ihm (by omega)];rfl
    rw [this l.length (by omega)]
    exact ents_agree fun i hi _=>(decide_eq_true hi).symm
   have hdo:Does P C l.toArray oj (KS listed) (avs j):=hdoes.congr_ (fun t ht=>by
    show look t (_++_)=look t (_++_)
    rw [look_app,look_app,hents t,ents_agree fun i hi hdi=>(hlook t ht i hi hdi).symm]) rfl rfl
   have next:∀ (v:Value) (G':Gh) (w':World),Ok C (KS listed) G' a w'→R G' (avs j) v→Bd σ.nk (avs j)→wpAny P .any l.toArray (Post C Q) fuel (listed.setIfInBounds j true) (a.put oj.dst v) w':=by
    intro v G' w' ok' hr hb
    have ok2:=ok'.set (d:=some d) hr hb fun x hx=>by cases hx;exact hdN
    rw [hd]
    refine ih (listed.setIfInBounds j true) G' _ w' (by simpa using hsz) (fun i oi hi hli e he hb=>?_) ?_ (ok2.congr_ (fun t=>?_) rfl rfl)
    ·have mono:∀ q,listed.getD q false=true→(listed.setIfInBounds j true).getD q false=true:=fun q hq=>by
      by_cases e:j=q
      ·subst e;rw [hq] at h3;cases h3
      ·simpa [Array.getD_eq_getD_getElem?,Array.getElem?_setIfInBounds_ne e] using hq
     by_cases e2:j=i
     ·subst e2
      rw [hlj] at hi;cases hi
      exact mono _ (h4 e he hb)
     ·refine mono _ (hcl i oi hi ?_ e he hb)
      simpa [Array.getD_eq_getD_getElem?,Array.getElem?_setIfInBounds_ne e2] using hli
    ·have hlt2:(List.range l.length).countP (fun i=>!(listed.setIfInBounds j true).getD i false) < (List.range l.length).countP (fun i=>!listed.getD i false):=by
      exact countP_lt (fun i hi=>by
       by_cases e:j=i
       ·subst e;simp [Array.getD_eq_getD_getElem?,hsz,hlt] at hi
       ·simpa [Array.getD_eq_getD_getElem?,Array.getElem?_setIfInBounds_ne e] using hi) hlt (by simp [h3]) (by simp [Array.getD_eq_getD_getElem?,hsz,hlt])
     omega
    ·show look t (_++_)=look t ((d,avs j)::(_++_))
     by_cases et:t=d
     ·subst et
      rw [look_set_same,look_app,ents_top (j:=j) hlt (by rw [h2];exact hd) (by simp [Array.getD_eq_getD_getElem?,hsz,hlt]) fun i hij hi hdi=>?_]
      ·rfl
      ·have hoi:l.toArray[i]?=some l[i]:=by simp [hi]
       rw [hoi] at hdi
       have hdi:l[i].dst=some t:=hdi
       have hne:j≠i:=by omega
       cases hli:listed.getD i false with
       | false=>simpa [Array.getD_eq_getD_getElem?,Array.getElem?_setIfInBounds_ne hne] using hli
       | true =>
        by_cases hno:∃ e,e∈(l[i]).after∧Region.binds .any e=true∧e.on=j
        ·obtain ⟨e,he,hb,he2⟩:=hno
         have:=hcl i _ (by simp [hi]) hli e he hb
         rw [he2,h3] at this;cases this
        ·exact absurd hdi ((Oper.apart_spec (FB j i _ _ (Nat.zero_le _) hij h2 hoi fun e he hb h=>hno ⟨e,he,hb,h⟩)).2.1 t hd)
     ·rw [look_set_other et,look_app,look_app]
      congr 1
      refine ents_agree fun i hi hdi=>?_
      by_cases e2:j=i
      ·subst e2
       rw [h2] at hdi
       have:oj.dst=some t:=hdi
       rw [hd] at this
       exact absurd (by injection this with h;exact h.symm) et
      ·simp [Array.getD_eq_getD_getElem?,Array.getElem?_setIfInBounds_ne e2]
   unfold wpOp
   simp only [h2]
   have okO:=ok.only_ (oj.looksAt l.toArray)
   rcases hdo with ⟨hg,hv⟩|⟨hg,hv⟩
   ·rw [if_pos (guardK_wanted okO hg)]
    exact .inl (hv G a w okO _ _ fun v G' w' hk hr hb=>next v G' w' (hk _ _ ok) hr hb)
   ·rw [if_neg (by rw [guardK_wanted okO hg];simp)]
    exact next undef G w ok (by rw [hv];exact .pu _ _ (.sc _)) (by rw [hv];exact .sc _)
 refine key _ (Array.replicate l.toArray.size false) G a _ (by simp) (fun j oj _ h=>?_) ?_ (ok.drew.congr_ (fun t=>?_) rfl rfl)
 ·rw [rep_getD] at h;cases h
 ·rw [sz]
  exact Nat.le_trans List.countP_le_length (by simp)
 ·show look t (_++_)=_
  rw [look_app,ents_none fun i hi _=>?_]
  ·rfl
  ·exact rep_getD _ _
theorem W.draw {id:Nat} {l:List Oper} (hm:P.follows .mixedOrders=true)(hB:Region.lexB .any l.toArray=true)(h:DL P C l.toArray l σ σ')(k:Q .normal σ'):W P C (.region id l.toArray true) σ Q:=W.of_wa hm (WA.draw hB h k)
end
end
section
open Go.RowKit
def needs(ops:Array Oper)(i:Nat):Nat→Nat→Bool
 | 0,_=>false
 | f+1,j =>
  match ops[j]? with
  | some o=>o.after.any fun e=>Region.binds .any e && (Nat.beq e.on i|| needs ops i f e.on)
  | none=>false
def behindB(ops:Array Oper)(mem:List Bool)(j:Nat):Bool:=(List.range j).all fun i=>!(mem.getD i false)|| needs ops i ops.size j
def chainB(ops:Array Oper)(mem:List Bool):Bool:=(List.range ops.size).all fun j=>!(mem.getD j false)|| behindB ops mem j
section
variable {P:Program} {C:Cx} {σ σ':St} {G G':Gh} {a:Act} {w w':World} {ops:Array Oper} {Q:Exit→St→Prop}
theorem needs_listed {listed:Array Bool} (hcl:∀ j oj,ops[j]?=some oj→listed.getD j false=true→∀ e∈oj.after,Region.binds .any e=true→listed.getD e.on false=true) {i:Nat}:∀ (f j:Nat),needs ops i f j=true→listed.getD j false=true→listed.getD i false=true
 | 0,j,h,_=>by cases h
 | f+1,j,h,hl=>by
  unfold needs at h
  cases ho:ops[j]? with
  | none=>simp [ho]at h
  | some o =>
   simp only [ho]at h
   obtain⟨e,he,h2⟩:=Array.any_eq_true'.1 h
   simp only [Bool.and_eq_true,Bool.or_eq_true]at h2
   have:=hcl j o ho hl e he h2.1
   rcases h2.2 with h3|h3
   ·rw [← Nat.eq_of_beq_eq_true h3];exact this
   ·exact needs_listed hcl f e.on h3 this
theorem needs_ready {listed:Array Bool} (hcl:∀ j oj,ops[j]?=some oj→listed.getD j false=true→∀ e∈oj.after,Region.binds .any e=true→listed.getD e.on false=true) {i j:Nat} {oj:Oper} (hj:ops[j]?=some oj)
  (hr:∀ e∈oj.after,Region.binds .any e=true→listed.getD e.on false=true):∀ (f:Nat),needs ops i f j=true→listed.getD i false=true
 | 0,h=>by cases h
 | f+1,h=>by
  unfold needs at h
  simp only [hj]at h
  obtain⟨e,he,h2⟩:=Array.any_eq_true'.1 h
  simp only [Bool.and_eq_true,Bool.or_eq_true]at h2
  have:=hr e he h2.1
  rcases h2.2 with h3|h3
  ·rw [← Nat.eq_of_beq_eq_true h3];exact this
  ·exact needs_listed hcl f e.on h3 this
theorem Ok.few (ok:Ok C σ G a w) {t:List (Nat×AV)} {M:List (Nat×AO)} {nk:Nat} (ht:∀ i av,look i t=some av→look i σ.t=some av∧av.inn nk=true) (hM:∀ k o,look k M=some o→look k σ.M=some o∧o.inn nk=true∧k<nk) (hnp:C.np≤nk):Ok C ⟨t,M,nk⟩ G a w :=
 ⟨ok.sz,⟨ok.df.1,hnp,ok.df.2.2⟩,fun i av x=>⟨(ok.tm i av (ht i av x).1).1,inn_bd (ht i av x).2,(ok.tm i av (ht i av x).1).2.2⟩,ok.bel,ok.fw,ok.f0,ok.f1,
  fun k o x=>⟨(hM k o x).2.2,by
   cases o with
   | box T cells=>exact fun i av y=>in1_bd (List.all_eq_true.1 (hM k _ x).2.1 av (List.mem_of_getElem? y))
   | rof T n rows hi hj y=>exact in1_bd (hM k _ x).2.1
   | rwo T n rows hi hj y=>exact in1_bd (hM k _ x).2.1
   | row T n rows=>trivial
   | rwn T n rows=>trivial
   | bld T e l=>trivial
   | opq q=>trivial,(ok.ob k o (hM k o x).1).2.2⟩,
  fun k o x p=>ok.my k o x (hM k o p).1,fun k o k' o' x p q=>ok.dj k o k' o' x (hM k o p).1 (hM k' o' q).1,fun k o x p u q=>ok.dF k o x p u (hM k o q).1⟩
def tsInn (nk:Nat):List (Nat×AV)→Bool
 | []=>true
 | x::r=>x.2.inn nk && tsInn nk r
def msInn (nk:Nat):List (Nat×AO)→Bool
 | []=>true
 | x::r=>x.2.inn nk && Nat.blt x.1 nk && msInn nk r
def msSub:List (Nat×AO)→List (Nat×AO)→Prop
 | [],_=>True
 | x::r,M=>look x.1 M=some x.2∧msSub r M
theorem tsInn_at {nk:Nat}:∀ {t:List (Nat×AV)},tsInn nk t=true→∀ i av,look i t=some av→av.inn nk=true
 | [],_,i,av,h=>by cases h
 | x::r,ht,i,av,h=>by
  simp only [tsInn,Bool.and_eq_true]at ht
  by_cases e:i=x.1
  ·subst e;rw [look_set_same]at h;cases h;exact ht.1
  ·rw [look_set_other e]at h;exact tsInn_at ht.2 i av h
theorem msInn_at {nk:Nat}:∀ {t:List (Nat×AO)},msInn nk t=true→∀ i o,look i t=some o→o.inn nk=true∧i<nk
 | [],_,i,o,h=>by cases h
 | x::r,ht,i,o,h=>by
  simp only [msInn,Bool.and_eq_true]at ht
  by_cases e:i=x.1
  ·subst e;rw [look_set_same]at h;cases h;exact⟨ht.1.1,of_blt ht.1.2⟩
  ·rw [look_set_other e]at h;exact msInn_at ht.2 i o h
theorem msSub_at {M:List (Nat×AO)}:∀ {t:List (Nat×AO)},msSub t M→∀ i o,look i t=some o→look i M=some o
 | [],_,i,o,h=>by cases h
 | x::r,ht,i,o,h=>by
  by_cases e:i=x.1
  ·subst e;rw [look_set_same]at h;cases h;exact ht.1
  ·rw [look_set_other e]at h;exact msSub_at ht.2 i o h
def DoesV (P:Program) (C:Cx) (ops:Array Oper) (o:Oper) (t:List (Nat×AV)) (Mc:List (Nat×AO)) (nk:Nat) (av:AV):Prop :=
 msInn nk Mc=true∧tsInn nk (onlyT t (o.looksAt ops))=true∧((guardK ops o ⟨onlyT t (o.looksAt ops),Mc,nk⟩=some true∧WV P C o ⟨onlyT t (o.looksAt ops),Mc,nk⟩ av)∨(guardK ops o ⟨onlyT t (o.looksAt ops),Mc,nk⟩=some false∧av=.sc undef))
def DoesM (P:Program) (C:Cx) (ops:Array Oper) (o:Oper) (σ:St) (d:Tmp) (av:AV) (M':List (Nat×AO)) (nk':Nat):Prop :=
 o.guard=none∧∀ t,(∀ q∈o.looksAt ops,look q t=look q σ.t)→WO P C o ⟨t,σ.M,σ.nk⟩ ⟨(d,av)::t,M',nk'⟩
inductive DM (P:Program) (C:Cx) (ops:Array Oper) (mem:List Bool) (Mc:List (Nat×AO)) (nk0:Nat):Nat→List Oper→St→St→Prop
 | nil (k:Nat) (σ:St):DM P C ops mem Mc nk0 k [] σ σ
 | val (k:Nat) (o:Oper) (rest:List Oper) (d:Tmp) (av:AV) (nk:Nat) (σ σ':St):mem.getD k false=false→o.dst=some d→Nat.blt d C.N=true→(nk=nk0∨(nk=σ.nk∧behindB ops mem k=true))→DoesV P C ops o σ.t Mc nk av →
   DM P C ops mem Mc nk0 (k+1) rest (σ.put d av) σ'→DM P C ops mem Mc nk0 k (o::rest) σ σ'
 | mem (k:Nat) (o:Oper) (rest:List Oper) (d:Tmp) (av:AV) (M':List (Nat×AO)) (nk':Nat) (σ σ':St):mem.getD k false=true→o.dst=some d→Nat.ble σ.nk nk'=true→msSub Mc M'→DoesM P C ops o σ d av M' nk' →
   DM P C ops mem Mc nk0 (k+1) rest ⟨(d,av)::σ.t,M',nk'⟩ σ'→DM P C ops mem Mc nk0 k (o::rest) σ σ'
def cur(mem s:Nat→Bool):Nat→Nat
 | 0=>0
 | m+1=>if mem m=true∧s m=true then m+1 else cur mem s m
theorem cur_congr {mem s s':Nat→Bool}:∀ {m:Nat},(∀ i,i<m→mem i=true→s i=s' i)→cur mem s m=cur mem s' m
 | 0,_=>rfl
 | m+1,h=>by
  unfold cur
  rw [cur_congr (m:=m) fun i hi=>h i (by omega)]
  by_cases e:mem m=true
  ·rw [h m (by omega) e]
  ·rw [if_neg (fun x=>e x.1),if_neg (fun x=>e x.1)]
theorem cur_le {mem s:Nat→Bool}:∀ m:Nat,cur mem s m≤m
 | 0=>Nat.le_refl _
 | m+1=>by
  unfold cur
  split
  ·exact Nat.le_refl _
  ·exact Nat.le_succ_of_le (cur_le m)
theorem cur_at {α:Type} {mem s:Nat→Bool} {f:Nat→α} {n j:Nat} (hc:∀ i,i<n→mem i=false→f (i+1)=f i) (hs:∀ i,i<n→mem i=true→s i=decide (i<j)):∀ m,m≤n→f (cur mem s m)=f (min m j)
 | 0,_=>by simp [cur]
 | m+1,h=>by
  have ih:=cur_at hc hs m zqo
  unfold cur
  by_cases e:mem m=true
  ·have:=hs m zqo e
   by_cases hm:m<j
   ·rw [if_pos ⟨e,by rw [this];simpa using hm⟩,show min (m+1) j=m+1 by omega]
   ·rw [if_neg (by rw [this];simp;intro _;omega),ih,show min (m+1) j=min m j by omega]
  ·rw [if_neg (fun x=>e x.1),ih]
   by_cases hm:m<j
   ·rw [show min (m+1) j=m+1 by omega,show min m j=m by omega,hc m (by omega) (by simpa using e)]
   ·rw [show min (m+1) j=min m j by omega]
theorem cur_ge {mem s:Nat→Bool} {f:Nat→Nat} {n j:Nat} (hc:∀ i,i<n→mem i=false→f (i+1)=f i) (hmono:∀ i,i<n→f i≤f (i+1)) (hs:∀ i,i<n→i<j→mem i=true→s i=true):∀ m,m≤n→f (min m j)≤f (cur mem s m)
 | 0,_=>by simp [cur]
 | m+1,h=>by
  have ih:=cur_ge hc hmono hs m zqo
  unfold cur
  by_cases e:mem m=true∧s m=true
  ·rw [if_pos e]
   by_cases hm:m<j
   ·rw [show min (m+1) j=m+1 by omega]
    exact Nat.le_refl _
   ·rw [show min (m+1) j=j by omega]
    have:∀ b a,a≤b→b≤n→f a≤f b:=by
     intro b
     induction b with
     | zero=>intro a h _;rw [Nat.le_zero.1 h];exact Nat.le_refl _
     | succ b ihb =>
      intro a hab hbn
      by_cases e2:a=b+1
      ·rw [e2];exact Nat.le_refl _
      ·exact Nat.le_trans (ihb a zqo zqo) (hmono b zqo)
    exact this (m+1) j zqo h
  ·rw [if_neg e]
   by_cases hm:m<j
   ·have hmf:mem m=false:=by
     cases hq:mem m with
     | false=>rfl
     | true=>exact absurd ⟨hq,hs m zqo hm hq⟩ e
    rw [show min (m+1) j=m+1 by omega,hc m (by omega) hmf]
    rw [show min m j=m by omega] at ih
    exact ih
   ·rw [show min (m+1) j=min m j by omega];exact ih
end
end
section
open Go.RowKit
theorem fold_put:∀ (v:List Value)(off:Nat)(cells:Array Value),off+v.length≤cells.size→(v.zipIdx.foldl (fun cs (c,j)=>cs.setIfInBounds (off+j) c) cells).toList=putL off v cells.toList:=by
 have key:∀ (v:List Value)(off s:Nat)(cells:Array Value),off+s+v.length≤cells.size→(v.zipIdx s|>.foldl (fun cs (x:Value×Nat)=>cs.setIfInBounds (off+x.2) x.1) cells).toList=putL (off+s) v cells.toList:=by
  intro v
  induction v with
  | nil =>
   intro off s cells h
   rw [putL_eq _ _ _ (by simpa using h)]
   simp
  | cons x r ih =>
   intro off s cells h
   rw [List.zipIdx_cons,List.foldl_cons,ih off (s+1) _ (by simp at h ⊢;omega)]
   have hlen:off+s+(r.length+1)≤cells.size:=by simpa [Nat.add_assoc] using h
   have hl:off+s<cells.toList.length:=by simp;omega
   apply List.ext_getElem?
   intro i
   rw [putL_at (by simp;omega),putL_at (by simp;omega),Array.toList_setIfInBounds,List.length_cons]
   by_cases h2:i=off+s
   ·subst h2
    rw [if_neg (by omega),if_pos (by omega),List.getElem?_set_self hl,Nat.sub_self];rfl
   ·rw [List.getElem?_set_ne (fun e=>h2 e.symm)]
    by_cases h3:off+s+1≤i∧i<off+s+(r.length+1)
    ·rw [if_pos (by omega),if_pos (by omega),show i-(off+s)=(i-(off+(s+1)))+1 by omega,List.getElem?_cons_succ]
    ·rw [if_neg (by omega),if_neg (by omega)]
 intro v off cells h
 have:=key v off 0 cells (by simpa using h)
 simpa using this
theorem putL_head {α:Type} (l m rest:List α)(off:Nat)(h:off=l.length)(done:List α)(hl:m.length≤rest.length):putL off m (l++rest)=l++m++rest.drop m.length:=by
 subst h
 rw [putL_eq _ _ _ (by simp;omega),List.take_left,List.drop_append]
 simp
theorem fill_rows {size:Nat}:∀ (vs:List Value) (q:Nat) (done rest:List Value),done.length=q*size→rest.length=vs.length*size→(∀ v∈vs,v.cells.size=size) →
  Instr.fill (fun i=>some (i*size,size)) (done++rest).toArray (number q vs)=some (done++(vs.map fun v=>v.cells.toList).flatten).toArray
 | [],q,done,rest,hd,hr,_=>by
  have:rest=[]:=List.eq_nil_of_length_eq_zero (by simpa using hr)
  subst this
  simp [number,Instr.fill]
 | v::vs,q,done,rest,hd,hr,hv=>by
  have h1:v.cells.size=size:=hv v (by simp)
  have hle:size≤rest.length:=by rw [hr,List.length_cons,Nat.succ_mul];omega
  have hb:(v.cells.size≠size|| q*size+v.cells.size > (done++rest).toArray.size)=false:=by
   rw [h1];simp [hd];omega
  have hf:=fold_put v.cells.toList (q*size) (done++rest).toArray (by simp [h1,hd];omega)
  have e:(v.cells.zipIdx.foldl (fun cs (c,j)=>cs.setIfInBounds (q*size+j) c) (done++rest).toArray)=((done++v.cells.toList)++rest.drop size).toArray:=by
   apply Array.ext'
   rw [← Array.foldl_toList,Array.toList_zipIdx,hf]
   have:=putL_head done v.cells.toList rest (q*size) hd.symm done (by simpa [h1] using hle)
   simp only [List.toList_toArray] at this ⊢
   rw [this]
   simp [h1]
  have ih:=fill_rows vs (q+1) (done++v.cells.toList) (rest.drop size) (by simp [hd,h1,Nat.succ_mul]) (by simp [hr,Nat.succ_mul]) fun x hx=>hv x (by simp [hx])
  show (match some (q*size,size) with|none=>none|some (off,sz)=>if v.cells.size≠sz|| off+v.cells.size > (done++rest).toArray.size then none else Instr.fill _ _ (number (q+1) vs))=_
  simp only
  rw [hb]
  simp only [Bool.false_eq_true,if_false]
  rw [e,ih]
  simp
section
variable {P:Program} {C:Cx} {σ σ':St} {G G':Gh} {a:Act} {w w':World} {o:Oper} {d:Tmp}
theorem run_buildS {T e n m:Nat} {z:Value} {vs:List Value} {parts:Array (Nat×Value)} (hT:P.underlying T=some (.slice e)) (hn:sizeB P e=some n) (hz:(P.info? e).bind (·.zero)=some z) (hp:parts.toList=number 0 vs) (hm:vs.length=m) (hv:∀ v∈vs,v.cells.size=n) (hb:m*n≤16777216) (w:World) :
  (Instr.buildSlice T m parts).run P w=.ok (.slice (some ⟨w.heap.size,0,none⟩) m m) (w.alloc (.cells (vs.map fun v=>v.cells.toList).flatten.toArray e)):=by
 cases hi:P.info? e with
 | none=>simp [hi] at hz
 | some i =>
  simp [hi] at hz
  have hfill:∀ zero:Array Value,Instr.fill (fun i=>some (i*n,n)) ((Array.range (m*n)).map (zero[· % zero.size]!)) parts.toList=some (vs.map fun v=>v.cells.toList).flatten.toArray:=fun zero=>by
   have:=fill_rows (size:=n) vs 0 [] ((Array.range (m*n)).map (zero[· % zero.size]!)).toList (by simp) (by simp [hm]) hv
   rw [hp]
   have e0:((Array.range (m*n)).map (zero[· % zero.size]!))=([]++((Array.range (m*n)).map (zero[· % zero.size]!)).toList).toArray:=by rw [List.nil_append,Array.toArray_toList]
   rw [e0];exact this
  have h2:¬ (m*n > 2 ^ 24):=by simp;omega
  unfold Instr.buildSlice
  by_cases h0:m*n=0
  ·simp only [Sem.run_bind,run_underlying hT,Result.andThen_ok,run_sizeB hn,if_neg h2,if_pos h0,Sem.run_pure,hfill,newRow,run_newObj]
   rfl
  ·simp only [Sem.run_bind,run_underlying hT,Result.andThen_ok,run_sizeB hn,if_neg h2,if_neg h0,Sem.run_pure,zeroValue,typeInfo,run_program,hi,hz,hfill,newRow,run_newObj]
   rfl
def rowsB(n:Nat)(l:List AV):Bool:=l.all fun av=>av.cellB && Nat.beq av.cells.length n && av.cells.all AV.oneB && av.cells.all AV.pu0
theorem number_map {α β:Type} (f:α→β):∀ (n:Nat)(l:List α),(number n l).map (fun x=>(x.1,f x.2))=number n (l.map f)
 | _,[]=>rfl
 | n,x::r=>by simp [number,number_map f (n+1) r]
def numB {α:Type}:Nat→List (Nat×α)→Bool
 | _,[]=>true
 | n,x::r=>Nat.beq x.1 n && numB (n+1) r
theorem numB_eq {α:Type}:∀ (n:Nat)(l:List (Nat×α)),numB n l=true→l=number n (l.map (·.2))
 | _,[],_=>rfl
 | n,x::r,h=>by
  simp only [numB,Bool.and_eq_true] at h
  rw [List.map_cons,number,← numB_eq (n+1) r h.2,← Nat.eq_of_beq_eq_true h.1]
theorem WO.build0 {T e n m q:Nat} {z:Value} {parts:Array (Nat×Operand)} {xs:List Operand} {avs:List AV} {rows:List (List AV)} (ho:o.op=.buildSlice T m parts) (hT:P.underlying T=some (.slice e)) (hn:sizeB P e=some n) (hz:(P.info? e).bind (·.zero)=some z)
  (hp:parts.toList=number 0 xs) (hm:xs.length=m) (hb:Nat.ble (m*n) 16777216=true) (hb1:Nat.ble m 16777216=true) (hds:o.dst=some d) (hd:Nat.blt d C.N=true) (hx:σ.evs xs=some avs) (hck:rowsB n avs=true) (hr:avs.map AV.cells=rows) (hq:σ.nk=q) :
  WO P C o σ ((σ.new (.row e n rows)).put d (.sl q)):=by
 intro G a w ok N Q' hN
 obtain ⟨e1,e2⟩:=ok.evl hx
 have hck':∀ av∈avs,av.cellB=true∧av.cells.length=n∧av.cells.all AV.oneB=true∧av.cells.all AV.pu0=true:=fun av hav=>by
  have:=List.all_eq_true.1 hck av hav
  simp only [Bool.and_eq_true] at this
  exact ⟨this.1.1.1,Nat.eq_of_beq_eq_true this.1.1.2,this.1.2,this.2⟩
 have hv:∀ v∈xs.map a.eval,v.cells.size=n:=fun v hv=>by
  obtain ⟨i,hi,rfl⟩:=List.getElem_of_mem hv
  have hi2:i<avs.length:=by omega
  obtain ⟨c1,c2,_⟩:=hck' _ (List.getElem_mem hi2)
  rw [(cells_of (e2 i _ _ (List.getElem?_eq_getElem hi2) (List.getElem?_eq_getElem hi)) c1).1,c2]
 have hlm:(xs.map a.eval).length=m:=by simpa using hm
 have hrun:=run_buildS (P:=P) (T:=T) (e:=e) (n:=n) (m:=m) (vs:=xs.map a.eval) (parts:=parts.map fun (i,x)=>(i,a.eval x)) hT hn hz (by
  have:=number_map a.eval 0 xs
  rw [← this,← hp];simp) hlm hv (Nat.le_of_ble_eq_true hb) w
 have hvs:((xs.map a.eval).map fun v=>v.cells.toList).length=rows.length:=by rw [← hr];simp only [List.length_map] at e1 ⊢;exact e1
 have hown:=own_built w e n m ((xs.map a.eval).map fun v=>v.cells.toList).flatten.toArray (by unfold maxLen;have:=Nat.le_of_ble_eq_true hb1;omega) (by
  rw [List.size_toArray,flatten_len (size:=n) (fun r hr=>by obtain ⟨v,hv',rfl⟩:=List.mem_map.1 hr;simpa using hv v hv')]
  simp [hm])
 have honeR:∀ r∈(xs.map a.eval).map fun v=>v.cells.toList,∀ u∈r,u.oneCell'=true :=
  (fun r hr' u hu=>by
   obtain ⟨v,hv',rfl⟩:=List.mem_map.1 hr'
   obtain ⟨i,hi,rfl⟩:=List.getElem_of_mem hv'
   have hi2:i<avs.length:=by omega
   obtain ⟨c1,c2,c3,_⟩:=hck' _ (List.getElem_mem hi2)
   obtain ⟨d1,d2⟩:=cells_of (e2 i _ _ (List.getElem?_eq_getElem hi2) (List.getElem?_eq_getElem hi)) c1
   obtain ⟨j,hj,rfl⟩:=List.getElem_of_mem hu
   have hj2:j<(avs[i]).cells.length:=by rw [← d1];simpa using hj
   exact oneB_of (d2 j _ _ (List.getElem?_eq_getElem hj2) (by simp at hj;simp [hj])) (List.all_eq_true.1 c3 _ (List.getElem_mem hj2)))
 have hrel:∀ (i:Nat) r r',rows[i]?=some r→((xs.map a.eval).map fun v=>v.cells.toList)[i]?=some r'→RL G.F r r' :=
  (fun i r r' h1 h2=>by
   rw [← hr,List.getElem?_map] at h1
   rw [List.getElem?_map] at h2
   cases q1:avs[i]? with
   | none=>simp [q1] at h1
   | some av =>
    cases q2:(xs.map a.eval)[i]? with
    | none=>simp [q2] at h2
    | some v =>
     simp [q1] at h1
     simp only [q2,Option.map_some,Option.some.injEq] at h2
     subst h1 h2
     obtain ⟨c1,c2,_,c4⟩:=hck' av (List.mem_of_getElem? q1)
     obtain ⟨d1,d2⟩:=cells_of (e2 i av v q1 q2) c1
     exact ⟨by simpa using d1,fun j x u hx hu=>(pu0_bd (List.all_eq_true.1 c4 x (List.mem_of_getElem? hx)) 0).rp (d2 j x u hx (by simpa using hu))⟩)
 have hsl:(.slice (some ⟨w.heap.size,0,none⟩) m m:Value).ownBlock=some w.heap.size:=rfl
 have ok':=ok.newObj (w':=w.alloc (.cells ((xs.map a.eval).map fun v=>v.cells.toList).flatten.toArray e)) (S:=fun _=>False) (b:=w.heap.size) (n:=n) (h:=.slice (some ⟨w.heap.size,0,none⟩) m m) (φ:=fun x=>x=w.heap.size) (ob:=.row e n rows)
  (Kept.below ((Below.refl _ _).alloc (Nat.le_refl _) _)) (fun _ h=>h.elim) (fun _ _ _ _ _ h=>h) (fun _ _ _ h=>h)
  ⟨with_n,(fun g hg=>by rw [with_h,hsl] at hg;rw [with_b];exact (Option.some.inj hg).symm),by
   rw [with_h,with_f]
   refine ⟨fun r hr'=>by rw [← hr] at hr';obtain ⟨av,hav,rfl⟩:=List.mem_map.1 hr';exact (hck' av hav).2.1,(xs.map a.eval).map fun v=>v.cells.toList,fun _ _ _=>False,?_,hvs,?_,fun g hg=>by rw [hsl] at hg;exact (Option.some.inj hg).symm,
    fun _ _ _ h=>h.elim,fun _ _ _ _ _ h=>h.elim,fun i r r' h1 h2=>(hrel i r r' h1 h2).1,fun i r r' j av u h1 h2 h3 h4=>(hrel i r r' h1 h2).2 j av u h3 h4⟩
   ·have:((xs.map a.eval).map fun v=>v.cells.toList).length=m:=by simpa using hlm
    rw [this]
    exact own_weaken (by simpa using hown) (Nat.zero_le _)
   ·exact honeR⟩ trivial (fun x hx=>by
   obtain rfl:x=w.heap.size:=hx
   refine ⟨.inl ok.bel.size,by simp,fun k o h1 h2=>?_,fun p u h1 h2=>?_⟩
   ·have:=(ok.my k o _ h1 h2).2;omega
   ·have:=cell_block (ok.fw p u h1);omega)
 unfold Oper.wp execOp
 simp only [ho,Sem.run_bind,hrun,Result.andThen_ok,Sem.run_pure,Oper.upon]
 rw [hds]
 subst hq
 exact hN _ _ _ (ok'.set (d:=some d) (av:=.sl σ.nk) (v:=.slice (some ⟨w.heap.size,0,none⟩) m m) (with_sl rfl) (.sl _ (Nat.lt_succ_self _)) fun x hx=>by cases hx;exact of_blt hd)
theorem WO.build {T e n m q:Nat} {z:Value} {parts:Array (Nat×Operand)} {avs:List AV} {rows:List (List AV)} (ho:o.op=.buildSlice T m parts) (hT:P.underlying T=some (.slice e)) (hn:sizeB P e=some n) (hz:(P.info? e).bind (·.zero)=some z)
  (hp:numB 0 parts.toList=true) (hm:parts.toList.length=m) (hb:Nat.ble (m*n) 16777216=true) (hb1:Nat.ble m 16777216=true) (hds:o.dst=some d) (hd:Nat.blt d C.N=true) (hx:σ.evs (parts.toList.map (·.2))=some avs) (hck:rowsB n avs=true) (hr:avs.map AV.cells=rows) (hq:σ.nk=q) :
  WO P C o σ ((σ.new (.row e n rows)).put d (.sl q)) :=
 WO.build0 ho hT hn hz (numB_eq 0 _ hp) (by simpa using hm) hb hb1 hds hd hx hck hr hq
end
end
section
open Go.RowKit
def placesB (P:Program)(T:TypeId):Option (List (Nat×Nat)) :=
 match P.underlying T with
 | some (.struct fields)=>fields.toList.mapM fun f=>(P.info? f.type).map fun i=>(f.offset,i.size)
 | _=>none
def fillA (places:List (Nat×Nat)):List AV→List (Nat×AV)→Option (List AV)
 | cells,[]=>some cells
 | cells,(i,av)::r =>
  match places[i]? with
  | some (off,sz)=>bif av.cellB && Nat.beq av.cells.length sz && Nat.ble (off+sz) cells.length then fillA places (putL off av.cells cells) r else none
  | none=>none
def pairUp:List (Nat×Operand)→List AV→List (Nat×AV)
 | (i,_)::r,av::s=>(i,av)::pairUp r s
 | _,_=>[]
section
variable {P:Program} {C:Cx} {σ σ':St} {G G':Gh} {a:Act} {w w':World} {o:Oper} {d:Tmp} {ops:Array Oper} {Q:Exit→St→Prop}
theorem fillA_of {places:List (Nat×Nat)}:∀ (parts:List (Nat×AV)) (vals:List (Nat×Value)) (cells:List AV) (cs:Array Value) (l:List AV),fillA places cells parts=some l→vals.length=parts.length →
  (∀ (q:Nat) x y,parts[q]?=some x→vals[q]?=some y→y.1=x.1∧R G x.2 y.2)→cs.size=cells.length→(∀ (i:Nat) x u,cells[i]?=some x→cs[i]?=some u→R G x u) →
  ∃ cs',Instr.fill (places.toArray[·]?) cs vals=some cs'∧cs'.size=l.length∧∀ (i:Nat) x u,l[i]?=some x→cs'[i]?=some u→R G x u
 | [],vals,cells,cs,l,h,hl,_,hs,hc=>by
  cases h
  have:vals=[]:=List.eq_nil_of_length_eq_zero hl
  subst this
  exact ⟨cs,rfl,hs,hc⟩
 | (i,av)::r,[],cells,cs,l,h,hl,_,hs,hc=>by cases hl
 | (i,av)::r,(j,v)::vr,cells,cs,l,h,hl,hp,hs,hc=>by
  obtain ⟨e1,e2⟩:=hp 0 _ _ rfl rfl
  simp only at e1 e2
  subst e1
  unfold fillA at h
  cases hpl:places[j]? with
  | none=>simp [hpl] at h
  | some x =>
   obtain ⟨off,sz⟩:=x
   simp only [hpl] at h
   cases hb:av.cellB && Nat.beq av.cells.length sz && Nat.ble (off+sz) cells.length with
   | false=>rw [hb] at h;cases h
   | true =>
    rw [hb] at h
    simp only [cond_true] at h
    simp only [Bool.and_eq_true] at hb
    obtain ⟨⟨b1,b2⟩,b3⟩:=hb
    have b2:=Nat.eq_of_beq_eq_true b2
    have b3:=Nat.le_of_ble_eq_true b3
    obtain ⟨c1,c2⟩:=cells_of e2 b1
    have hfit:off+v.cells.toList.length≤cs.size:=by rw [hs];simp [c1,b2];omega
    have hfit2:off+av.cells.length≤cells.length:=by omega
    obtain ⟨cs',f1,f2,f3⟩:=fillA_of r vr (putL off av.cells cells) (putL off v.cells.toList cs.toList).toArray l h (by simpa using hl) (fun q x y a b=>hp (q+1) x y (by simpa using a) (by simpa using b))
     (by rw [List.size_toArray,putL_len (by simpa using hfit),putL_len hfit2];simpa using hs)
     (fun q x u a b=>putL_rel (R G) hfit2 (by rw [Array.length_toList];exact c1) (by rw [Array.length_toList];exact hs) (fun q x y a b=>c2 q x y a (by simpa using b)) (fun q x y a b=>hc q x y a (by simpa using b)) q x u a (by simpa using b))
    refine ⟨cs',?_,f2,f3⟩
    have hf:=fold_put v.cells.toList off cs hfit
    have e:(v.cells.zipIdx.foldl (fun cs (c,j)=>cs.setIfInBounds (off+j) c) cs)=(putL off v.cells.toList cs.toList).toArray:=by
     apply Array.ext'
     rw [← Array.foldl_toList,Array.toList_zipIdx,hf]
    have hpl':places.toArray[j]?=some (off,sz):=by simpa using hpl
    show (match places.toArray[j]? with|none=>none|some (off,sz)=>if v.cells.size≠sz|| off+v.cells.size > cs.size then none else Instr.fill _ _ vr)=_
    rw [hpl']
    simp only
    have hbad:(v.cells.size≠sz|| off+v.cells.size > cs.size)=false:=by
     rw [c1,b2];simp;rw [hs];omega
    rw [hbad]
    simp only [Bool.false_eq_true,if_false]
    rw [e];exact f1
theorem WV.build {T:TypeId} {parts:Array (Nat×Operand)} {z:Value} {places:List (Nat×Nat)} {avs l:List AV} (ho:o.op=.build T parts) (hz:(P.info? T).bind (·.zero)=some z) (hpl:placesB P T=some places)
  (hx:σ.evs (parts.toList.map (·.2))=some avs) (hf:fillA places (z.cells.toList.map .sc) (pairUp parts.toList avs)=some l):WV P C o σ (.ag l):=by
 have main:∀ G a w,Ok C σ G a w→∃ cs,(Instr.build T (parts.map fun (i,x)=>(i,a.eval x))).run P w=.ok (.agg cs) w∧cs.size=l.length∧∀ (i:Nat) x u,l[i]?=some x→cs[i]?=some u→R G x u:=by
  intro G a w ok
  obtain ⟨e1,e2⟩:=ok.evl hx
  have hlen:avs.length=parts.toList.length:=by simpa using e1.symm
  have hpu:∀ (ps:List (Nat×Operand)) (ys:List AV),ys.length=ps.length→(pairUp ps ys).length=ps.length∧∀ (q:Nat) x,(pairUp ps ys)[q]?=some x→∃ p av,ps[q]?=some p∧ys[q]?=some av∧x=(p.1,av):=by
   intro ps
   induction ps with
   | nil=>intro ys h;exact ⟨by cases ys<;>rfl,fun q x hx=>by cases ys<;>simp [pairUp] at hx⟩
   | cons p r ih =>
    intro ys h
    cases ys with
    | nil=>simp at h
    | cons av s =>
     obtain ⟨h1,h2⟩:=ih s (by simpa using h)
     refine ⟨by simp [pairUp,h1],fun q x hx=>?_⟩
     cases q with
     | zero=>cases hx;exact ⟨p,av,rfl,rfl,rfl⟩
     | succ q=>exact h2 q x (by simpa [pairUp] using hx)
  obtain ⟨p1,p2⟩:=hpu parts.toList avs hlen
  obtain ⟨cs',f1,f2,f3⟩:=fillA_of (G:=G) (pairUp parts.toList avs) (parts.toList.map fun (i,x)=>(i,a.eval x)) _ z.cells l hf (by simp [p1]) (fun q x y hxq hy=>by
   obtain ⟨p,av,q1,q2,rfl⟩:=p2 q x hxq
   rw [List.getElem?_map,q1] at hy
   simp at hy
   subst hy
   exact ⟨rfl,e2 q av _ q2 (by rw [List.map_map,List.getElem?_map,q1];rfl)⟩) (by simp) (fun i x u hxi hu=>by
   rw [List.getElem?_map,show z.cells.toList[i]?=z.cells[i]? by simp,hu] at hxi
   cases hxi
   exact .pu _ _ (.sc _))
  refine ⟨cs',?_,f2,f3⟩
  apply run_build
  unfold Program.built
  cases hi:P.info? T with
  | none=>simp [hi] at hz
  | some it =>
   simp [hi] at hz
   unfold placesB at hpl
   cases hu:P.underlying T with
   | none=>simp [hu] at hpl
   | some u =>
    cases u with
    | struct fields =>
     simp only [hu] at hpl
     simp only [hz,hpl]
     simpa using f1
    | _=>simp [hu] at hpl
 refine WV.val (fun G a w ok=>?_) fun G a w ok=>?_
 ·obtain ⟨_,b2⟩:True∧∀ av∈avs,Bd σ.nk av:=⟨trivial,by
   have:∀ (xs:List Operand) (ys:List AV),σ.evs xs=some ys→∀ av∈ys,Bd σ.nk av:=by
    intro xs
    induction xs with
    | nil=>intro ys h av hav;cases h;cases hav
    | cons x r ih =>
     intro ys h av hav
     unfold St.evs at h
     cases h1:σ.ev x with
     | none=>simp [h1] at h
     | some y =>
      cases h2:σ.evs r with
      | none=>simp [h1,h2] at h
      | some l' =>
       simp [h1,h2] at h
       subst h
       rcases List.mem_cons.1 hav with rfl|hav
       ·exact (ok.evr h1).1
       ·exact ih l' h2 av hav
   exact this _ _ hx⟩
  have hfb:∀ (parts:List (Nat×AV)) (cells l:List AV),fillA places cells parts=some l→(∀ x∈parts,Bd σ.nk x.2)→(∀ (i:Nat) x,cells[i]?=some x→Bd σ.nk x)→∀ (i:Nat) x,l[i]?=some x→Bd σ.nk x:=by
   intro parts
   induction parts with
   | nil=>intro cells l h _ hc;cases h;exact hc
   | cons p r ih =>
    intro cells l h hp hc
    obtain ⟨i,av⟩:=p
    unfold fillA at h
    cases hpl:places[i]? with
    | none=>simp [hpl] at h
    | some x =>
     obtain ⟨off,sz⟩:=x
     simp only [hpl] at h
     cases hb:av.cellB && Nat.beq av.cells.length sz && Nat.ble (off+sz) cells.length with
     | false=>rw [hb] at h;cases h
     | true =>
      rw [hb] at h
      simp only [Bool.and_eq_true] at hb
      have b2:=Nat.eq_of_beq_eq_true hb.1.2
      have b3:=Nat.le_of_ble_eq_true hb.2
      refine ih _ _ h (fun x hx=>hp x (by simp [hx])) fun q x hx=>?_
      rw [putL_at (by omega)] at hx
      split at hx
      ·exact cells_bd (hp (i,av) (by simp)) _ x hx
      ·exact hc q x hx
  refine .ag _ (hfb _ _ _ hf (fun x hx=>?_) fun i x hx=>?_)
  ·have:∀ (ps:List (Nat×Operand)) (ys:List AV),x∈pairUp ps ys→x.2∈ys:=by
    intro ps
    induction ps with
    | nil=>intro ys h;cases ys<;>simp [pairUp] at h
    | cons p r ih =>
     intro ys h
     cases ys with
     | nil=>simp [pairUp] at h
     | cons av s =>
      rcases List.mem_cons.1 (by simpa [pairUp] using h) with rfl|h
      ·simp
      ·exact List.mem_cons_of_mem _ (ih s h)
   exact b2 _ (this _ _ hx)
  ·rw [List.getElem?_map] at hx
   cases hq:z.cells.toList[i]? with
   | none=>simp [hq] at hx
   | some u=>simp [hq] at hx;rw [← hx];exact .sc _
 ·obtain ⟨cs,h1,h2,h3⟩:=main G a w ok
  exact ⟨.agg cs,by unfold execOp;simp only [ho,Sem.run_bind,h1,Result.andThen_ok,Sem.run_pure],.ag l cs h2 h3⟩
end
end
section
open Go.RowKit
def gdn(v:Value)(b:Bool):Bool :=
 match vb v with
 | some c=>!(c == b)
 | none=>true
section
variable {P:Program} {C:Cx} {σ σ':St} {G G':Gh} {a:Act} {w w':World} {o oj:Oper} {d d0:Tmp} {ops:Array Oper} {rest:List Oper} {Q:Exit→St→Prop} {j:Nat} {b c:Bool}
theorem WL.opno {v:Value} (hg:o.guard=some (j,b))(hj:ops[j]?=some oj)(hd0:oj.dst=some d0)(hv:look d0 σ.t=some (.sc v))(hb:gdn v b=true)(hds:o.dst=some d)(hd:Nat.blt d C.N=true)(k:WL P C ops rest (σ.put d (.sc undef)) Q):WL P C ops (o::rest) σ Q :=
 WL.opn hg hj hd0 hv (by
  unfold gdn at hb
  cases h:vb v with
  | none=>simp
  | some c=>rw [h] at hb;cases c<;>cases b<;>first|(intro h2;cases h2;done)|cases hb) hds hd k
theorem WL.partG (hg:o.guard=some (j,b)) (hj:ops[j]?=some oj) (hd0:oj.dst=some d0) (hv:look d0 σ.t=some (.sc (.bool c))) (h1:c=true→WL P C ops (o::rest) (σ.put d0 (.sc (.bool true))) Q) (h2:c=false→WL P C ops (o::rest) (σ.put d0 (.sc (.bool false))) Q):WL P C ops (o::rest) σ Q :=
 WL.part hv h1 h2
theorem W.condT {x:Operand} {p q:Code} (hc:σ.ev x=some (.sc (.bool true))) (h:W P C p σ Q):W P C (.cond x p q) σ Q:=W.cond hc (fun _=>h) (fun h=>by cases h)
theorem W.condF {x:Operand} {p q:Code} (hc:σ.ev x=some (.sc (.bool false))) (h:W P C q σ Q):W P C (.cond x p q) σ Q:=W.cond hc (fun h=>by cases h) (fun _=>h)
theorem ev_agree {t:List (Nat×AV)} {M:List (Nat×AO)} {nk:Nat} (H:∀ q∈o.looksAt ops,look q t=look q σ.t) {x:Operand} (hx:x∈o.op.operands.toList):(⟨t,M,nk⟩:St).ev x=σ.ev x:=by
 cases x with
 | tmp q=>exact H q (List.mem_append_left _ (List.mem_filterMap.2 ⟨.tmp q,hx,rfl⟩))
 | const v=>rfl
 | func f=>rfl
 | global g=>rfl
theorem src_same {t:List (Nat×AV)} {nk:Nat} (n:Nat)(av:AV):(⟨t,σ.M,nk⟩:St).src n av=σ.src n av:=by cases av<;>rfl
theorem evs_agree {t:List (Nat×AV)} {M:List (Nat×AO)} {nk:Nat} (H:∀ q∈o.looksAt ops,look q t=look q σ.t):∀ {xs:List Operand},(∀ x∈xs,x∈o.op.operands.toList)→(⟨t,M,nk⟩:St).evs xs=σ.evs xs
 | [],_=>rfl
 | x::r,h=>by
  unfold St.evs
  rw [ev_agree H (h x (by simp)),evs_agree H fun y hy=>h y (by simp [hy])]
theorem DoesM.append {T e n by_ k m:Nat} {z:Value} {i:TypeInfo} {x y:Operand} {rows rows2 rows':List (List AV)} {av2:AV} {M':List (Nat×AO)} {nk':Nat} (hg:o.guard=none) (ho:o.op=.call { callee:=.builtin .append,args:=#[x,y],argTypes:=#[T,T] }) (hT:P.underlying T=some (.slice e))
  (hi:P.info? e=some i) (hz:i.zero=some z) (hn:i.size=n) (hby:i.bytes=by_) (hzs:z.cells.size=n) (h0:Nat.blt 0 n=true) (hds:o.dst=some d) (hd:Nat.blt d C.N=true)
  (hx:σ.ev x=some (.sl k)) (hk:look k σ.M=some (.row e n rows)) (hy:σ.ev y=some av2) (hs:σ.src n av2=some rows2) (hm:σ.nk=m) (hb1:rows.length+rows2.length≤1000000000) (hb2:Nat.ble by_ 100000=true) (hrr:rows++rows2=rows') (hM:(m,.row e n rows')::rem k σ.M=M') (hnk:m+1=nk') :
  DoesM P C ops o σ d (.sl m) M' nk':=by
 subst hM hnk
 refine ⟨hg,fun t H=>?_⟩
 have hmem:∀ q∈[x,y],q∈o.op.operands.toList:=fun q hq=>by rw [ho];simp [Op.operands,Call.operands] at hq ⊢;exact hq
 have:=WO.append (P:=P) (C:=C) (σ:=⟨t,σ.M,σ.nk⟩) ho hT hi hz hn hby hzs h0 hds hd ((ev_agree H (hmem x (by simp))).trans hx) hk ((ev_agree H (hmem y (by simp))).trans hy) ((src_same n av2).trans hs) hm hb1 hb2 hrr
 subst hm
 exact this
theorem DoesM.build {T e n m q:Nat} {z:Value} {parts:Array (Nat×Operand)} {avs:List AV} {rows:List (List AV)} {M':List (Nat×AO)} {nk':Nat} (hg:o.guard=none) (ho:o.op=.buildSlice T m parts) (hT:P.underlying T=some (.slice e)) (hn:sizeB P e=some n) (hz:(P.info? e).bind (·.zero)=some z)
  (hp:numB 0 parts.toList=true) (hm:parts.toList.length=m) (hb:Nat.ble (m*n) 16777216=true) (hb1:Nat.ble m 16777216=true) (hds:o.dst=some d) (hd:Nat.blt d C.N=true) (hx:σ.evs (parts.toList.map (·.2))=some avs) (hck:rowsB n avs=true) (hr:avs.map AV.cells=rows) (hq:σ.nk=q) (hM:(q,.row e n rows)::σ.M=M') (hnk:q+1=nk') :
  DoesM P C ops o σ d (.sl q) M' nk':=by
 subst hM hnk
 refine ⟨hg,fun t H=>?_⟩
 have hmem:∀ x∈parts.toList.map (·.2),x∈o.op.operands.toList:=fun x hx'=>by
  rw [ho]
  simp only [Op.operands]
  exact hx'
 have:=WO.build (P:=P) (C:=C) (σ:=⟨t,σ.M,σ.nk⟩) ho hT hn hz hp hm hb hb1 hds hd ((evs_agree H hmem).trans hx) hck hr hq
 subst hq
 exact this
end
theorem Tr.nilBox {C:Cx} {σ:St} {k j m:Nat} {T':TypeId} {cells cells':List AV} (T:TypeId) (n:Nat) (hk:look k σ.M=some (.box T' cells)) (hj:cells[j]?=some (.sc (.slice none 0 0))) (hm:σ.nk=m) (hc:cells.set j (.sl m)=cells') :
  Tr C σ ((σ.new (.row T n [])).upd k (.box T' cells')):=fun G a w ok=>by
 obtain ⟨G',ok',hsl⟩:=ok.nilRow T n
 subst hm hc
 have hkn:k≠σ.nk:=Nat.ne_of_lt (ok.ob k _ hk).1
 have hk':look k (σ.new (.row T n [])).M=some (.box T' cells):=by
  rw [show look k (σ.new (.row T n [])).M=look k σ.M from look_set_other hkn];exact hk
 obtain ⟨g1,g2,g3,cs,Φ,g4,g5,g6,g7,g8⟩:=ok'.ob k _ hk'
 refine ⟨G',ok'.reob hk' ⟨g1,fun i av x=>?_,g3,cs,Φ,g4,by simpa using g5,g6,g7,fun i av u x y=>?_⟩⟩
 ·rw [List.getElem?_set]at x
  split at x
  ·split at x
   ·cases x;exact .sl _ (Nat.lt_succ_self _)
   ·cases x
  ·exact g2 i av x
 ·by_cases e:j=i
  ·subst e
   have hlt:j<cells.length:=(List.getElem?_eq_some_iff.1 hj).1
   rw [List.getElem?_set_self hlt]at x
   cases x
   have:=((g8 j _ u hj y).r rfl).sc_eq
   rw [this];exact .inl hsl
  ·rw [List.getElem?_set_ne e]at x
   exact g8 i av u x y
theorem callF {P:Program} {f:FuncId} {fn:Func} (h:P.funcs[f]?=some fn)(hn:(fn.name == "runtime.NumGoroutine")=false)(hb:fn.body.isNone=false):∀ vs w,(callFunc f vs).run P w=.ok (.enter f vs) w:=fun vs w=>by
 unfold callFunc
 simp only [Sem.run_bind,run_program,Result.andThen_ok,h,hn,hb,Bool.false_eq_true,if_false]
 rfl
theorem zqc {P:Program} {C:Cx} {o:Oper} {σ:St} {f:FuncId} {fn:Func} {xs:Array Operand} {ts:Array TypeId} {args:List AV} {res:AV} (hf:P.funcs[f]? = some fn) (h:Ctr P f args res) (ho:o.op = .call { callee:=.value (.func f),args:=xs,argTypes:=ts }:=by rfl) (hx:σ.evs xs.toList = some args:=by rfl) (hp:args.all AV.pu2 = true:=by rfl) (hn:(fn.name == "runtime.NumGoroutine") = false:=by rfl) (hb:fn.body.isNone = false:=by rfl):WV P C o σ res:=WV.call ho (callF hf hn hb) hx hp h
theorem letsOut_mono {Q Q':Exit→Act→World→Prop} (h:∀ e a w,Q e a w→Q' e a w)(k:LetsOut Q):LetsOut Q':=let⟨a,w,q⟩:=k;⟨a,w,h _ a w q⟩
theorem wp_monoQ {P:Program} {o:Oper} {a:Act} {w:World} {K K':Act→World→Prop} {Q Q':Exit→Act→World→Prop} (hk:∀ a w,K a w→K' a w)(hq:∀ e a w,Q e a w→Q' e a w)(h:o.wp P a w K Q):o.wp P a w K' Q':=by
 unfold Oper.wp at *
 generalize(execOp a.eval o).run P w=r at *
 cases r with
 | ok n w' =>
  cases n<;>simp only [Oper.upon]at h ⊢
  case value v=>exact hk _ _ h
  case skip=>exact hk _ _ h
  case defer d=>exact hk _ _ h
  case enter f args =>
   refine h.mono fun e w'' x=>?_
   cases e with
   | returned v=>exact hk _ _ x
   | panicked c=>exact hq _ _ _ x
   | outgrown=>exact letsOut_mono hq x
  case row r args=>exact h.mono fun v w'' x=>hk _ _ x
 | halt x w' =>
  cases x<;>simp only [Oper.upon]at h ⊢
  exact hq _ _ _ h
theorem wpList_mono' {P:Program} {ops:Array Oper} {Q Q':Exit→Act→World→Prop}:∀ {l:List Oper} {a:Act} {w:World},wpList P ops Q l a w→(∀ e a w,Q e a w→Q' e a w)→wpList P ops Q' l a w
 | [],a,w,h,hq=>hq _ _ _ h
 | o::rest,a,w,h,hq=>by
  unfold wpList at *
  split at h
  ·rename_i hw
   rw [if_pos hw]
   rcases h with h|⟨h1,h2⟩
   ·exact .inl (wp_monoQ (fun a w x=>wpList_mono' x hq) hq h)
   ·exact .inr ⟨h1,letsOut_mono hq h2⟩
  ·rename_i hw
   rw [if_neg hw]
   exact wpList_mono' h hq
theorem W.meet {P:Program} {C:Cx} {σ:St} {Q Q2:Exit→St→Prop} {x y:Code} (σm:St)(h:W P C x σ (QThen (fun s=>Tr C s σm) Q))(k:W P C y σm Q2):W P C x σ (QThen (fun s=>W P C y s Q2) Q) :=
 W.mono h fun e s q=>by
  cases e with
  | normal=>exact W.tr q k
  | _=>exact q
end
section
open Go.RowKit
def rq_spS (c:UInt8)(s:List (List UInt8)×List UInt8)(b:UInt8):List (List UInt8)×List UInt8:=if b=c then (s.1++[s.2],[])else (s.1,s.2++[b])
def rq_spl (c:UInt8) (t:List UInt8):List (List UInt8)×List UInt8:=t.foldl (rq_spS c) ([],[])
def rq_joinC (c:UInt8)(ls:List (List UInt8))(tl:List UInt8):List UInt8:=ls.flatMap (fun l=>l++[c])++tl
def rq_NoB(c:UInt8)(l:List UInt8):Prop:=∀ b∈l,b≠c
theorem rq_joinC_nil(c:UInt8)(tl:List UInt8):rq_joinC c [] tl=tl:=rfl
theorem rq_joinC_cons (c:UInt8)(l:List UInt8)(ls:List (List UInt8))(tl:List UInt8):rq_joinC c (l::ls) tl=l++c::rq_joinC c ls tl:=by
 unfold rq_joinC;simp
theorem rq_sp_join (c:UInt8):∀ (t:List UInt8) (ls:List (List UInt8)) (cur:List UInt8),rq_joinC c (t.foldl (rq_spS c) (ls,cur)).1 (t.foldl (rq_spS c) (ls,cur)).2=rq_joinC c ls cur++t
 | [],ls,cur=>by simp
 | b::r,ls,cur=>by
  by_cases h:b=c
  ·rw [List.foldl_cons,show rq_spS c (ls,cur) b=(ls++[cur],[]) from if_pos h,rq_sp_join c r]
   simp [rq_joinC,h]
  ·rw [List.foldl_cons,show rq_spS c (ls,cur) b=(ls,cur++[b]) from if_neg h,rq_sp_join c r]
   simp [rq_joinC]
theorem rq_sp_no (c:UInt8):∀ (t:List UInt8) (ls:List (List UInt8)) (cur:List UInt8),(∀ l∈ls,rq_NoB c l)→rq_NoB c cur→(∀ l∈(t.foldl (rq_spS c) (ls,cur)).1,rq_NoB c l)∧rq_NoB c (t.foldl (rq_spS c) (ls,cur)).2
 | [],ls,cur,h1,h2=>⟨h1,h2⟩
 | b::r,ls,cur,h1,h2=>by
  by_cases h:b=c
  ·rw [List.foldl_cons,show rq_spS c (ls,cur) b=(ls++[cur],[]) from if_pos h]
   exact rq_sp_no c r _ _ (fun l hl=>by
    rcases List.mem_append.1 hl with x|x
    ·exact h1 l x
    ·rw [List.mem_singleton.1 x];exact h2) (fun b hb=>by cases hb)
  ·rw [List.foldl_cons,show rq_spS c (ls,cur) b=(ls,cur++[b]) from if_neg h]
   exact rq_sp_no c r _ _ h1 (fun x hx=>by
    rcases List.mem_append.1 hx with y|y
    ·exact h2 x y
    ·rw [List.mem_singleton.1 y];exact h)
theorem rq_sp_run (c:UInt8):∀ (l:List UInt8) (ls:List (List UInt8)) (cur:List UInt8),rq_NoB c l→l.foldl (rq_spS c) (ls,cur)=(ls,cur++l)
 | [],ls,cur,_=>by simp
 | b::r,ls,cur,h=>by
  rw [List.foldl_cons,show rq_spS c (ls,cur) b=(ls,cur++[b]) from if_neg (h b (by simp)),rq_sp_run c r _ _ (fun x hx=>h x (by simp [hx]))]
  simp
theorem rq_sp_uniq (c:UInt8):∀ (ls:List (List UInt8)) (tl:List UInt8) (a:List (List UInt8)),(∀ l∈ls,rq_NoB c l)→rq_NoB c tl→(rq_joinC c ls tl).foldl (rq_spS c) (a,[])=(a++ls,tl)
 | [],tl,a,_,h=>by rw [rq_joinC_nil,rq_sp_run c tl _ _ h];simp
 | l::ls,tl,a,h1,h2=>by
  rw [rq_joinC_cons,List.foldl_append,rq_sp_run c l _ _ (h1 l (by simp)),List.foldl_cons,List.nil_append,show rq_spS c (a,l) c=(a++[l],[]) from if_pos rfl,rq_sp_uniq c ls tl _ (fun x hx=>h1 x (by simp [hx])) h2]
  simp
theorem rq_spl_join (c:UInt8)(t:List UInt8):rq_joinC c (rq_spl c t).1 (rq_spl c t).2=t:=(rq_sp_join c t [] []).trans rfl
theorem rq_spl_no (c:UInt8) (t:List UInt8):(∀ l∈(rq_spl c t).1,rq_NoB c l)∧rq_NoB c (rq_spl c t).2:=rq_sp_no c t [] [] (fun l hl=>by cases hl) (fun b hb=>by cases hb)
theorem rq_spl_uniq {c:UInt8} {ls:List (List UInt8)} {tl:List UInt8} (h1:∀ l∈ls,rq_NoB c l)(h2:rq_NoB c tl):rq_spl c (rq_joinC c ls tl)=(ls,tl):=by
 unfold rq_spl;rw [rq_sp_uniq c ls tl [] h1 h2];simp
theorem rq_index_first (c:UInt8)(r:List UInt8):∀ l:List UInt8,rq_NoB c l→Lib.index (l++c::r) [c]=(l.length:Int)
 | [],_=>by rw [List.nil_append,Lib.index];simp [List.isPrefixOf]
 | b::l,h=>by
  have ih:=rq_index_first c r l (fun x hx=>h x (by simp [hx]))
  have hb:([c]:List UInt8).isPrefixOf (b::(l++c::r))=false:=by simp [List.isPrefixOf,Ne.symm (h b (by simp))]
  rw [List.cons_append,Lib.index,hb,ih]
  simp only [Bool.false_eq_true,if_false,List.length_cons]
  rw [if_neg (by simp)]
  omega
theorem rq_index_none (c:UInt8):∀ l:List UInt8,rq_NoB c l→Lib.index l [c]=-1
 | [],_=>by rw [Lib.index];simp
 | b::l,h=>by
  have ih:=rq_index_none c l (fun x hx=>h x (by simp [hx]))
  have hb:([c]:List UInt8).isPrefixOf (b::l)=false:=by simp [List.isPrefixOf,Ne.symm (h b (by simp))]
  rw [Lib.index,hb,ih]
  simp
theorem rq_cut_at {c:UInt8} {l r:List UInt8} (h:rq_NoB c l):Lib.cut (l++c::r) [c]=(l,r,true):=by
 have hi:=rq_index_first c r l h
 unfold Lib.cut
 rw [if_pos (by omega),hi,Int.toNat_natCast]
 have e1:(l++c::r).take l.length=l:=List.take_left
 have e2:(l++c::r).drop (l.length+[c].length)=r:=by
  rw [show l++c::r=(l++[c])++r by simp,show l.length+[c].length=(l++[c]).length by simp];exact List.drop_left
 rw [e1,e2]
theorem rq_cut_no {c:UInt8} {l:List UInt8} (h:rq_NoB c l):Lib.cut l [c]=(l,[],false):=by
 have hi:=rq_index_none c l h
 unfold Lib.cut
 rw [if_neg (by omega)]
theorem rq_count_no {c:UInt8} {l:List UInt8} (h:rq_NoB c l):Lib.count l [c]=0:=by
 rw [Lib.count_one,List.count_eq_zero]
 exact fun hc=>h c hc rfl
theorem rq_count_join (c:UInt8):∀ (ls:List (List UInt8))(tl:List UInt8),(∀ l∈ls,rq_NoB c l)→rq_NoB c tl→Lib.count (rq_joinC c ls tl) [c]=ls.length
 | [],tl,_,h=>by rw [rq_joinC_nil,rq_count_no h];rfl
 | l::ls,tl,h1,h2=>by
  have ih:=rq_count_join c ls tl (fun x hx=>h1 x (by simp [hx])) h2
  have h0:=rq_count_no (h1 l (by simp))
  rw [Lib.count_one] at ih h0 ⊢
  rw [rq_joinC_cons,List.count_append,h0,List.count_cons_self,ih,List.length_cons];omega
theorem rq_splitK_join (c:UInt8):∀ (ls:List (List UInt8))(tl:List UInt8),(∀ l∈ls,rq_NoB c l)→rq_NoB c tl→Lib.splitK [c] 0 ls.length (rq_joinC c ls tl)=ls++[tl]
 | [],tl,_,_=>rfl
 | l::ls,tl,h1,h2=>by
  have hi:=rq_index_first c (rq_joinC c ls tl) l (h1 l (by simp))
  rw [rq_joinC_cons,List.length_cons,Lib.splitK,hi,if_neg (by simp),Int.toNat_natCast]
  have e1:(l++c::rq_joinC c ls tl).take (l.length+0)=l:=List.take_left
  have e2:(l++c::rq_joinC c ls tl).drop (l.length+[c].length)=rq_joinC c ls tl:=by
   rw [show l++c::rq_joinC c ls tl=(l++[c])++rq_joinC c ls tl by simp,show l.length+[c].length=(l++[c]).length by simp];exact List.drop_left
  rw [e1,e2,rq_splitK_join c ls tl (fun x hx=>h1 x (by simp [hx])) h2];rfl
def rq_wds (c:UInt8)(t:List UInt8):List (List UInt8):=(rq_spl c t).1++[(rq_spl c t).2]
theorem rq_split_wds (c:UInt8)(t:List UInt8):Lib.splitK [c] 0 (Lib.count t [c]) t=rq_wds c t:=by
 obtain⟨h1,h2⟩:=rq_spl_no c t
 have hj:=rq_spl_join c t
 unfold rq_wds
 rw [← rq_splitK_join c _ _ h1 h2,hj,← rq_count_join c _ _ h1 h2,hj]
theorem rq_wds_len(c:UInt8)(t:List UInt8):(rq_wds c t).length=Lib.count t [c]+1:=by
 obtain⟨h1,h2⟩:=rq_spl_no c t
 have:=rq_count_join c _ _ h1 h2
 rw [rq_spl_join]at this
 unfold rq_wds;rw [this];simp
theorem rq_wds_cons (c:UInt8) (l r:List UInt8) (h:rq_NoB c l):rq_wds c (l++c::r)=l::rq_wds c r:=by
 obtain ⟨h1,h2⟩:=rq_spl_no c r
 have hj:=rq_spl_join c r
 have e:l++c::r=rq_joinC c (l::(rq_spl c r).1) (rq_spl c r).2:=by rw [rq_joinC_cons,hj]
 unfold rq_wds
 rw [e,rq_spl_uniq (fun x hx=>by rcases List.mem_cons.1 hx with y|y;exact y ▸ h;exact h1 x y) h2]
 simp
theorem rq_wds_one (c:UInt8) (l:List UInt8) (h:rq_NoB c l):rq_wds c l=[l]:=by
 have:=rq_spl_uniq (ls:=[]) (fun x hx=>by cases hx) h
 unfold rq_wds
 rw [rq_joinC_nil] at this
 rw [this];rfl
theorem rq_wds_bytes (c:UInt8) (t:List UInt8):∀ w∈rq_wds c t,w.length≤t.length:=by
 intro w hw
 have hj:=rq_spl_join c t
 unfold rq_wds at hw
 have hl:t.length=(rq_joinC c (rq_spl c t).1 (rq_spl c t).2).length:=by rw [hj]
 rw [hl]
 unfold rq_joinC
 rcases List.mem_append.1 hw with x|x
 ·obtain ⟨i,hi,rfl⟩:=List.mem_iff_getElem.1 x
  rw [List.length_append]
  have:((rq_spl c t).1[i]++[c]).length≤((rq_spl c t).1.flatMap fun l=>l++[c]).length:=by
   have:=List.sublist_flatten_of_mem (List.mem_map.2 ⟨_,List.getElem_mem hi,rfl⟩:(rq_spl c t).1[i]++[c]∈(rq_spl c t).1.map fun l=>l++[c])
   rw [List.flatMap_def];exact this.length_le
  simp at this ⊢;omega
 ·rw [List.mem_singleton.1 x];simp
def rq_numG (n:Nat):List UInt8→Option Nat
 | []=>some n
 | b::r=>if 48≤b.toNat∧b.toNat≤57 then rq_numG (10*n+(b.toNat-48)) r else none
def rq_numR(w:List UInt8):Option Nat:=if w.length<1∨3<w.length∨(w.getD 0 0=48∧1<w.length)then none else rq_numG 0 w
def rq_dig3 (n:Nat):List UInt8:=if n<10 then [UInt8.ofNat (48+n)]else if n<100 then [UInt8.ofNat (48+n/10),UInt8.ofNat (48+n % 10)]else [UInt8.ofNat (48+n/100),UInt8.ofNat (48+n/10 % 10),UInt8.ofNat (48+n % 10)]
theorem rq_dig3_eq {n:Nat} (h:n<1000):Lib.itoa (n:Int)=rq_dig3 n:=by
 unfold Lib.itoa
 rw [if_neg (by omega),Int.toNat_natCast]
 unfold rq_dig3
 by_cases h1:n<10
 ·rw [if_pos h1,Lib.decDigits_one h1]
 ·rw [if_neg h1]
  by_cases h2:n<100
  ·rw [if_pos h2,Lib.decDigits_two h1 h2]
  ·rw [if_neg h2,Lib.decDigits,dif_neg h1,Lib.decDigits_two (by omega) (by omega)]
   rw [show n/10/10=n/100 by omega];rfl
end
end Go.Proofs.YthehkchjdkdbiaaGreatDoor
