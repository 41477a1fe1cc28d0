/- A walk that knows values as trees: new objects, stores, calls. -/
import Derived.Test.YthohlofpphjofaaGreatDoorE1Gq
set_option linter.unusedVariables false
set_option linter.unusedSimpArgs false
namespace Go.Proofs.YthohlofpphjofaaGreatDoor
theorem Jr {p:Prop}(h:p:=by simpa using hu):p:=h
theorem pF {p:Prop}(h:p:=by simpa using q):p:=h
theorem pz {p:Prop}(h:p:=by simpa using h1):p:=h
section
variable {p:Prop}
theorem aeb(h:p:=by
 refine⟨u,?_,.pu _ _ hp,hp.bd _⟩
 simp_all[add_flat,ET]):p:=h
theorem UL(h:p:=by
 obtain⟨G',y⟩:=h G a w x
 exact k G' a w y):p:=h
theorem adV(h:p:=by
 show (a.tmps.setIfInBounds d v).size=C.N
 rw [Array.size_setIfInBounds];exact h.sz):p:=h
theorem adI(h:p:=by
 subst hm
 unfold execOp
 simp [ho,resolve,invoke,builtin,e,Builtin.len_,run_underlying hT,goInt]):p:=h
theorem adq(h:p:=by
 have hlt:m<n:=by rw [← hlen];exact (List.getElem?_eq_some_iff.1 h).1
 rw [← hl,EC hlt] at h;exact h):p:=h
theorem ajj(h:p:=by
 exact hN G' _ _ (ok'.set (d:=some d) (.pt σ.nk 0 0 _ hbb.symm (by simp) rfl) (.pt _ _ _ (ou _)) fun x hx=>by simp_all)):p:=h
theorem afu(h:p:=by
 have hlt:i<cs.size:=by grind
 exact ih i x cs[i] hx (pq hlt)):p:=h
theorem Xa(h:p:=by
 exact ⟨ok.df.1,v,hr,v,F',rfl,ok.bel.to_below (fun _ h=>h),fun p u x=>hle p u (ok.f0 p u x),hfw,fun p u x=>(hnew p u x).elim (fun y=>(ok.f1 p u y).elim .inl fun z=>.inr (z.elim id fun h=>h.elim)) fun z=>.inr (z.elim id fun h=>h.elim),hres⟩):p:=h
end
section
open Go.RowKit
def St.ev (σ:St):Operand→Option AV
 | .tmp t=>look t σ.t
 | .const v=>some (.sc v)
 | .func f=>some (.sc (.func (.func f) #[] #[]))
 | .global g=>some (.sc (.pointer (some ⟨g,0,none⟩)))
def St.set(σ:St)(d:Option Tmp)(av:AV):St :=
 match d with
 | none=>σ
 | some d=>{ σ with t:=(d,av)::σ.t }
def St.put(σ:St)(d:Tmp)(av:AV):St:={ σ with t:=(d,av)::σ.t }
section
variable {P:Program} {C:Cx} {σ σ':St} {G G':Gh} {a:Act} {w w':World}
theorem Ok.evr (h:Ok C σ G a w) {x:Operand} {av:AV} (hx:σ.ev x=some av):Bd σ.nk av∧R G av (a.eval x):=by
 cases x with
 | tmp t=>exact⟨(h.tm t av hx).2.1,(h.tm t av hx).2.2⟩
 | const v=>cases hx;exact⟨.sc _,.pu _ _ (.sc _)⟩
 | func f=>cases hx;exact⟨.sc _,.pu _ _ (.sc _)⟩
 | global g=>cases hx;exact⟨.sc _,.pu _ _ (.sc _)⟩
theorem Ok.evs (h:Ok C σ G a w) {x:Operand} {v:Value} (hx:σ.ev x=some (.sc v)):a.eval x=v:=(h.evr hx).2.sc_eq
theorem getD_set_(ts:Array Value)(d i:Nat)(v:Value)(hd:d<ts.size):(ts.setIfInBounds d v).getD i undef=if d=i then v else ts.getD i undef:=by
 by_cases e:d=i
 all_goals simp_all
theorem Ok.set (h:Ok C σ G a w) {d:Option Tmp} {av:AV} {v:Value} (hR:R G av v)(hb:Bd σ.nk av)(hd:∀ x,d=some x→x<C.N):Ok C (σ.set d av) G (a.put d v) w:=by
 cases d with
 | none=>exact h
 | some d =>
  have hd:=hd d rfl
  refine⟨?_,h.df,?_,h.bel,h.fw,h.f0,h.f1,h.ob,h.my,h.dj,h.dF⟩
  ·exact adV
  ·intro i x hx
   show i<C.N∧Bd σ.nk x∧R G x ((a.tmps.setIfInBounds d v).getD i undef)
   rw [getD_set_ _ _ _ _ (by rw [h.sz];exact hd)]
   by_cases e:d=i
   ·simp_all[St.set,look_set_same]
   ·rw [show look i (St.set σ (some d) av).t=look i σ.t from look_set_other (fun x=>e x.symm)] at hx
    rw [if_neg e]
    exact h.tm i x hx
theorem ownsRowF_keep {w w':World} {B e size n:Nat} {v:Value} {xs:List Value} (h:w.ownsRowF B e size v n xs) (hk:∀ g,v.ownBlock=some g→w'.heap[g]?=w.heap[g]?):w'.ownsRowF B e size v n xs:=by
 refine ⟨h.1,?_⟩
 rcases h.2 with x|⟨g,cap,cur,fz,e,hb,hh,hr⟩
 ·exact .inl x
 ·exact .inr ⟨g,cap,cur,fz,e,hb,(hk g (by rw [e];rfl)).trans hh,hr⟩
theorem RowIs.keep {T n:Nat} {rows:List (List AV)} {v:Value} {φ:Nat→Prop} {X X':Nat→Nat→(Nat→Prop)→AV→Value→Prop} (h:RowIs w T n rows v φ X) (hw:∀ x,φ x→w'.heap[x]?=w.heap[x]?)
  (hX:∀ (i:Nat)r (j:Nat)av ψ u,rows[i]?=some r→r[j]?=some av→(∀ x,ψ x→w'.heap[x]?=w.heap[x]?)→X i j ψ av u→X' i j ψ av u):RowIs w' T n rows v φ X':=by
 obtain ⟨h1,vs,Φ,h2,h3,h4,h5,h6,h7,h8,h9⟩:=h
 exact ⟨h1,vs,Φ,ownsRow_keep h2 fun g hg=>hw g (h5 g hg),h3,h4,h5,h6,h7,h8,fun i r r' j av u a b c d=>hX i r j av _ u a c (fun x hx=>hw x (h6 i j x hx).1) (h9 i r r' j av u a b c d)⟩
theorem ObAt.keep {nk k:Nat} {o:AO} (h:ObAt G w k o) (hle:G.le G' nk) (hk:k<nk) (hb:o.bd nk) (hf:G'.fp k=G.fp k) (hw:∀ x,G.fp k x→w'.heap[x]?=w.heap[x]?):ObAt G' w' k o:=by
 cases o with
 | box T cells =>
  obtain ⟨h1,cs,Φ,h2,h3,h4,h5,h6⟩:=h
  refine ⟨by rw [hf,hle.b k hk];exact h1,cs,Φ,?_,h3,by rw [hf,hle.b k hk];exact h4,h5,fun i av u x y=>(h6 i av u x y).keep hle (hb i av x) fun z hz=>hw z (h4 i z hz).1⟩
  rw [hle.b k hk]
  exact (hw _ h1).trans h2
 | row T n rows =>
  obtain ⟨h1,h2,h3⟩:=h
  refine ⟨by rw [hle.n k hk];exact h1,by rw [hle.h k hk,hle.b k hk];exact h2,?_⟩
  rw [hf,hle.h k hk]
  exact h3.keep hw fun i r j av ψ u _ _ hψ x=>RP.mono hle.F x
 | rwn T n rows =>
  obtain ⟨h1,h2,h3⟩:=h
  refine ⟨by rw [hle.n k hk];exact h1,by rw [hle.h k hk,hle.b k hk];exact h2,?_⟩
  rw [hf,hle.h k hk]
  exact h3.keep hw fun i r j av ψ u _ _ hψ x=>OW.keep hle.F x hψ
 | rof T n rows hi hj y =>
  obtain ⟨h1,h2,h3⟩:=h
  refine ⟨by rw [hle.n k hk];exact h1,by rw [hle.h k hk,hle.b k hk];exact h2,?_⟩
  rw [hf,hle.h k hk]
  refine h3.keep hw fun i r j av ψ u hr hav hψ x=>?_
  unfold XH at x ⊢
  by_cases e:i=hi∧j=hj
  ·rw [if_pos e] at x ⊢
   exact R.mono hle x hb
  ·rw [if_neg e] at x ⊢
   exact RP.mono hle.F x
 | rwo T n rows hi hj y =>
  obtain ⟨h1,h2,h3⟩:=h
  refine ⟨by rw [hle.n k hk];exact h1,by rw [hle.h k hk,hle.b k hk];exact h2,?_⟩
  rw [hf,hle.h k hk]
  refine h3.keep hw fun i r j av ψ u hr hav hψ x=>?_
  unfold XQ at x ⊢
  by_cases e:i=hi∧j=hj
  ·rw [if_pos e] at x ⊢
   exact R.mono hle x hb
  ·rw [if_neg e] at x ⊢
   exact OW.keep hle.F x hψ
 | bld T e l =>
  obtain ⟨h1,p,v,h2,h3,h4,h5⟩:=h
  refine ⟨by rw [hf,hle.b k hk];exact h1,p,v,by rw [hle.b k hk];exact h2,?_,ownsRowF_keep h4 fun g hg=>hw g (h5 g hg).1,by rw [hf,hle.b k hk];exact h5⟩
  rw [hle.b k hk]
  simp_all
 | opq q =>
  show q.Q w' (G'.b k) (G'.h k) (G'.fp k)
  rw [hle.b k hk,hle.h k hk,hf]
  exact q.st _ _ _ _ _ hw h
theorem Ok.world {S:Nat→Prop} (h:Ok C σ G a w) (hle:G.le G' σ.nk) (hfp:∀ k,k<σ.nk→G'.fp k=G.fp k) (hb:Kept S w w') (hS:∀ x,S x→C.may x) (hw:∀ k o x,look k σ.M=some o→G.fp k x→w'.heap[x]?=w.heap[x]?)
  (hfw:∀ p u,G'.F p=some u→w'.cell? p=some u) (hn:∀ p u,G'.F p=some u→G.F p=some u∨w.heap.size≤p.block):Ok C σ G' a w':=by
 refine ⟨h.sz,⟨h.df.1,h.df.2.1,fun k hk=>by
  have hk2:=jr hk h.df.2.1
  rw [hle.b k hk2,hle.n k hk2,hle.h k hk2];exact h.df.2.2 k hk⟩,fun i av x=>⟨(h.tm i av x).1,(h.tm i av x).2.1,(h.tm i av x).2.2.mono hle (h.tm i av x).2.1⟩,h.bel.on hb hS,hfw,fun p u x=>hle.F _ _ (h.f0 p u x),?_,?_,?_,?_,?_⟩
 ·intro p u x
  rcases hn p u x with y|y
  ·exact h.f1 p u y
  ·exact .inr (.inl (iD h.bel.size y))
 ·intro k o x
  obtain ⟨a1,a2,a3⟩:=h.ob k o x
  exact ⟨a1,a2,a3.keep hle a1 a2 (hfp k a1) (fun y hy=>hw k o y x hy)⟩
 ·intro k o x h1 h2
  rw [hfp k (h.ob k o h1).1]at h2
  exact ⟨(h.my k o x h1 h2).1,jr (h.my k o x h1 h2).2 hb.size⟩
 ·intro k o k' o' x h1 h2 h3 h4
  rw [hfp k (h.ob k o h1).1]at h3
  rw [hfp k' (h.ob k' o' h2).1]at h4
  exact h.dj k o k' o' x h1 h2 h3 h4
 ·intro k o x p u h1 h2 h3
  rw [hfp k (h.ob k o h1).1]at h2
  rcases hn p u h3 with y|y
  ·exact h.dF k o x p u h1 h2 y
  ·have:=(h.my k o x h1 h2).2
   omega
theorem Ok.drew (h:Ok C σ G a w):Ok C σ G a w.drew :=
 h.world (S:=fun _=>False) (Gh.le.refl _ _) (fun _ _=>rfl) ⟨rfl,rfl,rfl,Nat.le_refl _,fun _ _ _=>rfl⟩ (fun _ x=>x.elim) (fun _ _ _ _ _=>rfl) h.fw (fun _ _ x=>.inl x)
end
def Tr(C:Cx)(σ σ':St):Prop:=∀ G a w,Ok C σ G a w→∃ G',Ok C σ' G' a w
theorem Tr.trans {C:Cx} {σ σ' σ'':St} (h:Tr C σ σ')(k:Tr C σ' σ''):Tr C σ σ'':=fun G a w x=>by
 exact UL
def Post(C:Cx)(Q:Exit→St→Prop):Exit→Act→World→Prop:=fun e a w=>∃ σ G,Q e σ∧Ok C σ G a w
def W (P:Program)(C:Cx)(c:Code)(σ:St)(Q:Exit→St→Prop):Prop:=∀ G a w,Ok C σ G a w→c.wp P (Post C Q) a w
def WL (P:Program)(C:Cx)(ops:Array Oper)(l:List Oper)(σ:St)(Q:Exit→St→Prop):Prop:=∀ G a w,Ok C σ G a w→wpList P ops (Post C Q) l a w
def WO(P:Program)(C:Cx)(o:Oper)(σ σ':St):Prop :=
 ∀ G a w,Ok C σ G a w→∀ (N:Act→World→Prop)(Q':Exit→Act→World→Prop),(∀ G' a' w',Ok C σ' G' a' w'→N a' w')→o.wp P a w N Q'
section
variable {P:Program} {C:Cx} {σ σ':St} {Q Q':Exit→St→Prop}
theorem W.tr {c:Code} (h:Tr C σ σ')(k:W P C c σ' Q):W P C c σ Q:=fun G a w x=>by
 exact UL
theorem WL.tr {ops:Array Oper} {l:List Oper} (h:Tr C σ σ')(k:WL P C ops l σ' Q):WL P C ops l σ Q:=fun G a w x=>by
 exact UL
theorem W.mono {c:Code} (h:W P C c σ Q)(hq:∀ e s,Q e s→Q' e s):W P C c σ Q':=fun G a w x =>
 wp_mono (h G a w x) fun e a w⟨s,g,q,o⟩=>⟨s,g,hq e s q,o⟩
theorem W.skip(h:Q .normal σ):W P C .skip σ Q:=fun G a w x=>wp_skip ⟨σ,G,h,x⟩
theorem W.exit {id:Nat} (h:Q (.exit id) σ):W P C (.exit id) σ Q:=fun G a w x=>wp_exit ⟨σ,G,h,x⟩
theorem W.ret(h:Q .ret σ):W P C .ret σ Q:=fun G a w x=>wp_ret ⟨σ,G,h,x⟩
def QThen(N:St→Prop)(Q:Exit→St→Prop):Exit→St→Prop
 | .normal,s=>N s
 | e,s=>Q e s
def QBlock (id:Nat)(Q:Exit→St→Prop):Exit→St→Prop
 | .exit id',s=>if id'=id then Q .normal s else Q (.exit id') s
 | e,s=>Q e s
theorem W.seq {x y:Code} (h:W P C x σ (QThen (fun s=>W P C y s Q) Q)):W P C (.seq x y) σ Q:=fun G a w ok =>
 wp_seq (wp_mono (h G a w ok) fun e a w⟨s,g,q,o⟩=>by
  cases e with
  | normal=>exact q g a w o
  | exit id=>exact⟨s,g,q,o⟩
  | goto l=>exact⟨s,g,q,o⟩
  | ret=>exact⟨s,g,q,o⟩
  | panic c=>exact⟨s,g,q,o⟩
  | outgrown=>exact⟨s,g,q,o⟩)
theorem W.seqM {x y:Code} (σm:St)(h:W P C x σ (QThen (fun s=>Tr C s σm) Q))(k:W P C y σm Q):W P C (.seq x y) σ Q :=
 W.seq (W.mono h fun e s q=>by
  cases e with
  | normal=>exact W.tr q k
  | _=>exact q)
theorem W.block {id:Nat} {c:Code} (h:W P C c σ (QBlock id Q)):W P C (.block id c) σ Q:=fun G a w ok =>
 wp_block (wp_mono (h G a w ok) fun e a w⟨s,g,q,o⟩=>by
  cases e with
  | exit id' =>
   show if id'=id then _ else _
   by_cases e:id'=id
   ·rw [if_pos e];exact⟨s,g,by simp_all[QBlock],o⟩
   ·rw [if_neg e];exact⟨s,g,by simp_all[QBlock],o⟩
  | normal=>exact⟨s,g,q,o⟩
  | goto l=>exact⟨s,g,q,o⟩
  | ret=>exact⟨s,g,q,o⟩
  | panic c=>exact⟨s,g,q,o⟩
  | outgrown=>exact⟨s,g,q,o⟩)
theorem W.cond {c:Operand} {x y:Code} {t:Bool} (hc:σ.ev c=some (.sc (.bool t)))(h1:t=true→W P C x σ Q)(h2:t=false→W P C y σ Q):W P C (.cond c x y) σ Q:=fun G a w ok=>by
 refine wp_cond (ok.evs hc) ?_
 cases t
 ·exact h2 rfl G a w ok
 ·exact h1 rfl G a w ok
theorem W.loop {c:Code} {X:Type} (I:X→Prop) (S:X→St) (μ:X→Nat) (x0:X) (h0:I x0) (hi:Tr C σ (S x0))
  (round:∀ x,I x→W P C c (S x) (QThen (fun s=>∃ x',I x'∧μ x'<μ x∧Tr C s (S x')) Q)):W P C (.loop c) σ Q:=by
 intro G a w ok b k cs
 have key:∀ n x G a w,μ x=n→I x→Ok C (S x) G a w→∃ e a' w',Post C Q e a' w'∧Arrives P (lone (b.at a (.code c::.inLoop c::k)) cs w) b k cs e a' w':=by
  intro n
  induction n using Nat.strongRecOn with
  | _ n ih =>
   intro x G a w hn hI ok
   obtain ⟨e,a1,w1,⟨s,g,hq,o1⟩,harr⟩:=round x hI G a w ok b (.inLoop c::k) cs
   cases e with
   | normal =>
    obtain ⟨x',hI',hlt,ht⟩:=hq
    obtain ⟨g',o2⟩:=ht g a1 w1 o1
    obtain ⟨e2,a2,w2,hq2,harr2⟩:=ih (μ x') (hn ▸ hlt) x' g' a1 w1 rfl hI' o2
    exact ⟨e2,a2,w2,hq2,.of_steps (Steps.trans harr (.one step_inLoop)) harr2⟩
   | exit id=>exact ⟨_,a1,w1,⟨s,g,hq,o1⟩,.pass (x:=.inLoop c) rfl (fun _ _=>.inl (by simp)) harr⟩
   | goto l=>exact ⟨_,a1,w1,⟨s,g,hq,o1⟩,.pass (x:=.inLoop c) rfl (fun _ _=>.inl (by simp)) harr⟩
   | ret=>exact ⟨_,a1,w1,⟨s,g,hq,o1⟩,.pass (x:=.inLoop c) rfl (fun _ _=>.inl (by simp)) harr⟩
   | panic ch=>exact ⟨_,a1,w1,⟨s,g,hq,o1⟩,.pass (x:=.inLoop c) rfl (fun _ _=>.inl (by simp)) harr⟩
   | outgrown=>exact ⟨_,a1,w1,⟨s,g,hq,o1⟩,.pass (x:=.inLoop c) rfl (fun _ _=>.inl (by simp)) harr⟩
 obtain ⟨g0,ok0⟩:=hi G a w ok
 obtain ⟨e,a',w',hq,harr⟩:=key _ x0 g0 a w rfl h0 ok0
 exact ⟨e,a',w',hq,.of_steps (.one step_loop) harr⟩
theorem W.region {id:Nat} {l:List Oper} (h:WL P C l.toArray l σ Q):W P C (.region id l.toArray false) σ Q:=fun G a w ok=>wp_region_lit (h G a w ok)
theorem WL.nil {ops:Array Oper} (h:Q .normal σ):WL P C ops [] σ Q:=fun G a w ok=>wpList_nil ⟨σ,G,h,ok⟩
theorem WL.op {ops:Array Oper} {o:Oper} {rest:List Oper} (hg:o.guard=none)(h:WO P C o σ σ')(k:WL P C ops rest σ' Q):WL P C ops (o::rest) σ Q:=fun G a w ok =>
 wpList_plain hg fun K hK=>h G a w ok K _ fun G' a' w' ok'=>hK _ _ (k G' a' w' ok')
theorem of_blt {a b:Nat} (h:Nat.blt a b=true):a<b:=Nat.lt_of_succ_le (by simp_all[Nat.blt])
def vb:Value→Option Bool
 | .bool b=>some b
 | _=>none
theorem yielded_of {ops:Array Oper} {G:Gh} {a:Act} {w:World} (ok:Ok C σ G a w) {j:Nat} {oj:Oper} {d:Tmp} {v:Value} (hj:ops[j]?=some oj)(hd:oj.dst=some d)(hv:look d σ.t=some (.sc v)) :
  yielded ops a.tmps j=vb v:=by
 have h1:=ok.tm d _ hv
 have h2:=h1.2.2.sc_eq
 have h3:a.tmps[d]?=some v:=by
  have hlt:d<a.tmps.size:=by rw [ok.sz];exact h1.1
  simp_all
 simp only [yielded,hj,EU,hd,h3]
 cases v<;>rfl
theorem WL.opn {ops:Array Oper} {o oj:Oper} {rest:List Oper} {j:Nat} {b:Bool} {d d':Tmp} {v:Value} (hg:o.guard=some (j,b)) (hj:ops[j]?=some oj) (hd:oj.dst=some d) (hv:look d σ.t=some (.sc v))
  (hb:vb v≠some b) (hds:o.dst=some d') (hdn:Nat.blt d' C.N=true) (h:WL P C ops rest (σ.put d' (.sc undef)) Q):WL P C ops (o::rest) σ Q:=fun G a w ok =>
 wpList_step fun K hK=>by
  have hy:=yielded_of (ops:=ops) ok hj hd hv
  rw [if_neg (by simp_all[Region.wanted])]
  rw [hds]
  exact hK _ _ (h G _ w (ok.set (d:=some d') (.pu _ _ (.sc _)) (.sc _) fun x hx=>by simp_all))
theorem WL.part {ops:Array Oper} {l:List Oper} {d:Tmp} {b:Bool} (hv:look d σ.t=some (.sc (.bool b))) (h1:b=true→WL P C ops l (σ.set (some d) (.sc (.bool true))) Q) (h2:b=false→WL P C ops l (σ.set (some d) (.sc (.bool false))) Q):WL P C ops l σ Q:=fun G a w ok=>by
 have key:∀ c,b=c→Ok C (σ.set (some d) (.sc (.bool c))) G a w:=fun c e=>by
  subst e
  refine ⟨ok.sz,ok.df,fun i x hx=>?_,ok.bel,ok.fw,ok.f0,ok.f1,ok.ob,ok.my,ok.dj,ok.dF⟩
  by_cases hi:i=d
  ·subst hi
   rw [show look i (St.set σ (some i) (.sc (.bool b))).t=_ from look_set_same] at hx
   cases hx
   exact ok.tm i _ hv
  ·rw [show look i (St.set σ (some d) (.sc (.bool b))).t=_ from look_set_other hi] at hx
   exact ok.tm i x hx
 cases b
 ·exact h2 rfl G a w (key _ rfl)
 ·exact h1 rfl G a w (key _ rfl)
end
def Ctr(P:Program)(f:FuncId)(args:List AV)(res:AV):Prop :=
 ∀ (w:World)(F:View)(vs:List Value),(∀ p u,F p=some u→w.cell? p=some u)→RL F args vs →
  Calls P f vs.toArray w fun e w'=>∃ v F',e=.returned v∧Below w.heap.size w w'∧View.le F F'∧(∀ p u,F' p=some u→w'.cell? p=some u)∧(∀ p u,F' p=some u→F p=some u∨w.heap.size≤p.block)∧RP F' res v
def number {α:Type}:Nat→List α→List (Nat×α)
 | _,[]=>[]
 | n,x::r=>(n,x)::number (n+1) r
theorem look_number {α:Type}:∀ (l:List α)(n i:Nat)(x:α),look i (number n l)=some x→n≤i∧l[i-n]?=some x
 | [],n,i,x,h=>by cases h
 | y::r,n,i,x,h=>by
  by_cases e:i=n
  ·simp_all[number,look_set_same]
  ·rw [show look i (number n (y::r))=look i (number (n+1) r) from look_set_other e] at h
   obtain⟨h1,h2⟩:=look_number r (n+1) i x h
   grind
def St.init(args:List AV):St:=⟨number 0 args,[],0⟩
def G0:Gh:=⟨fun _=>none,fun _=>0,fun _=>0,fun _=>undef,fun _ _=>False⟩
def Fin(P:Program)(fn:Func)(C:Cx)(σ:St)(res:AV):Prop :=
 ∀ G a w,Ok C σ G a w→∃ v F',(results fn a.tmps).run P w=.ok v w∧View.le G.F F'∧(∀ p u,F' p=some u→w.cell? p=some u)∧(∀ p u,F' p=some u→G.F p=some u∨C.may p.block)∧RP F' res v
def QFin(P:Program)(fn:Func)(C:Cx)(res:AV):Exit→St→Prop:=fun e σ=>(e=.normal∨e=.ret)∧Fin P fn C σ res
theorem Ctr.intro {P:Program} {f:FuncId} {fn:Func} {c:Code} {args:List AV} {res:AV} (hf:P.funcs[f]?=some fn) (hb:fn.body=some c) {N:Nat} (hN:fn.ntmps=N) (hn:args.length≤N) (hp:∀ (i:Nat) av,args[i]?=some av→Bd 0 av)
  (h:∀ w0 F0,W P ⟨w0,F0,N,fun _=>False,0,G0,[]⟩ c (St.init args) (QFin P fn ⟨w0,F0,N,fun _=>False,0,G0,[]⟩ res)):Ctr P f args res:=by
 intro w F vs hF hR
 subst hN
 refine calls_of_wp hf hb ?_
 have hsz:vs.toArray.size=args.length:=by simpa using hR.1
 have h1:=h w F ⟨F,fun _=>0,fun _=>0,fun _=>undef,fun _ _=>False⟩ { tmps:=vs.toArray++Array.replicate (fn.ntmps - vs.toArray.size) undef,defers:=[] } w
  ⟨by simp_all,⟨rfl,Nat.le_refl _,fun k hk=>absurd hk (ED k)⟩,fun i av hx=>by
   obtain ⟨_,h2⟩:=look_number args 0 i av hx
   simp only [EW] at h2
   have hi:i < args.length:=(List.getElem?_eq_some_iff.1 h2).1
   have hv:i < vs.length:=by rw [hR.1];exact hi
   refine ⟨by grind,hp i av h2,.pu _ _ (hR.2 i av _ h2 ?_)⟩
   simp_all[yL],
   Kept.refl _ _,hF,fun _ _ h=>h,fun _ _ h=>.inl h,(fun k o h=>by cases h),(fun k o x h=>by cases h),(fun k o k' o' x h=>by cases h),(fun k o x p u h=>by cases h)⟩
 refine wp_mono h1 fun e a w' ⟨σ,G,⟨he,hfin⟩,ok⟩=>?_
 obtain ⟨v,F',hr,hle,hfw,hnew,hres⟩:=hfin G a w' ok
 rcases he with rfl|rfl
 ·exact Xa
 ·exact Xa
theorem Bd.rp {G:Gh} {av:AV} {v:Value} (b:Bd 0 av)(r:R G av v):RP G.F av v:=by
 induction r with
 | pu _ _ h=>exact h
 | pt k i j p=>cases b<;>omega
 | sl k=>cases b<;>omega
 | ag l cs h1 _ ih=>cases b with|ag _ hb=>exact .ag l cs h1 fun i av u x y=>ih i av u x y (hb i av x)
 | tu l cs h1 _ ih=>cases b with|tu _ hb=>exact .tu l cs h1 fun i av u x y=>ih i av u x y (hb i av x)
 | fn f l cs h1 _ ih=>cases b with|fn _ _ hb=>exact .fn f l cs h1 fun i av u x y=>ih i av u x y (hb i av x)
theorem Fin.one {P:Program} {fn:Func} {C:Cx} {σ:St} {t:Tmp} {res:AV} (h:fn.results=#[.tmp t])(ht:look t σ.t=some res)(hb:Bd 0 res):Fin P fn C σ res:=fun G a w ok =>
 ⟨a.tmps.getD t undef,G.F,results_tmp h _ _ _,fun _ _ h=>h,ok.fw,fun _ _ h=>.inl h,hb.rp (ok.tm t _ ht).2.2⟩
theorem Fin.two {P:Program} {fn:Func} {C:Cx} {σ:St} {t u:Tmp} {r1 r2:AV} (h:fn.results=#[.tmp t,.tmp u])(h1:look t σ.t=some r1)(h2:look u σ.t=some r2)(b1:Bd 0 r1)(b2:Bd 0 r2):Fin P fn C σ (.tu [r1,r2]):=fun G a w ok =>
 ⟨.tuple #[a.tmps.getD t undef,a.tmps.getD u undef],G.F,results_tmp2 h _ _ _,fun _ _ h=>h,ok.fw,fun _ _ h=>.inl h,.tu _ _ rfl fun i av x ha hx=>by
  match i with
  | 0=>cases ha;cases hx;exact b1.rp (ok.tm t _ h1).2.2
  | 1=>cases ha;cases hx;exact b2.rp (ok.tm u _ h2).2.2
  | n+2=>simp at ha⟩
section
variable {P:Program} {C:Cx} {σ σ':St} {o:Oper} {d:Tmp}
def WV (P:Program)(C:Cx)(o:Oper)(σ:St)(av:AV):Prop :=
 ∀ G a w,Ok C σ G a w→∀ (N:Act→World→Prop)(Q':Exit→Act→World→Prop),
  (∀ v G' w',(∀ σ'' a'',Ok C σ'' G a'' w→Ok C σ'' G' a'' w')→R G' av v→Bd σ.nk av→N (a.put o.dst v) w')→o.wp P a w N Q'
theorem WO.of_wv {av:AV} (hds:o.dst=some d)(hd:Nat.blt d C.N=true)(h:WV P C o σ av):WO P C o σ (σ.put d av):=fun G a w ok N Q' hN =>
 h G a w ok N Q' fun v G' w' hk hr hb=>by
  rw [hds]
  exact hN G' _ w' ((hk σ a ok).set (d:=some d) hr hb fun x hx=>by simp_all)
theorem WL.opv {ops:Array Oper} {rest:List Oper} {Q:Exit→St→Prop} {av:AV} (hg:o.guard=none)(hds:o.dst=some d)(hd:Nat.blt d C.N=true)(h:WV P C o σ av)(k:WL P C ops rest (σ.put d av) Q):WL P C ops (o::rest) σ Q :=
 WL.op hg (WO.of_wv hds hd h) k
theorem WV.val {av:AV} (hb:∀ G a w,Ok C σ G a w→Bd σ.nk av)(h:∀ G a w,Ok C σ G a w→∃ v,(execOp a.eval o).run P w=.ok (.value v) w∧R G av v):WV P C o σ av:=by
 intro G a w ok N Q' hN
 obtain⟨v,h1,h2⟩:=h G a w ok
 unfold Oper.wp
 rw [h1]
 exact hN v G w (fun _ _ h=>h) h2 (hb G a w ok)
theorem WV.sc {v:Value} (h:∀ G a w,Ok C σ G a w→(execOp a.eval o).run P w=.ok (.value v) w):WV P C o σ (.sc v) :=
 WV.val (fun _ _ _ _=>.sc v) fun G a w ok=>⟨v,h G a w ok,.pu _ _ (.sc v)⟩
theorem WV.move {x:Operand} {av:AV} (ho:o.op=.move x)(hx:σ.ev x=some av):WV P C o σ av :=
 WV.val (fun G a w ok=>(ok.evr hx).1) fun G a w ok=>⟨a.eval x,by simp_all[execOp],(ok.evr hx).2⟩
theorem WV.assign {x:Operand} {av:AV} (ho:o.op=.assign x)(hx:σ.ev x=some av):WV P C o σ av :=
 WV.val (fun G a w ok=>(ok.evr hx).1) fun G a w ok=>⟨a.eval x,by simp_all[execOp],(ok.evr hx).2⟩
theorem WV.pickT {c x y:Operand} {av:AV} (ho:o.op=.pick c x y)(hc:σ.ev c=some (.sc (.bool true)))(hx:σ.ev x=some av):WV P C o σ av :=
 WV.val (fun G a w ok=>(ok.evr hx).1) fun G a w ok=>⟨a.eval x,by unfold execOp;simp [ho,ok.evs hc,asBool],(ok.evr hx).2⟩
theorem WV.pickF {c x y:Operand} {av:AV} (ho:o.op=.pick c x y)(hc:σ.ev c=some (.sc (.bool false)))(hy:σ.ev y=some av):WV P C o σ av :=
 WV.val (fun G a w ok=>(ok.evr hy).1) fun G a w ok=>⟨a.eval y,by unfold execOp;simp [ho,ok.evs hc,asBool],(ok.evr hy).2⟩
def I64(z:Int):Prop:=-9223372036854775808≤z∧z<9223372036854775808
theorem I64.wrap {z:Int} (h:I64 z):IntKind.i64.wrap z=z:=Go.IntWalk.i64_in z ⟨h.1,by have:=h.2;omega⟩
theorem WV.add {T Ty:TypeId} {x y:Operand} {m n:Int} (ho:o.op=.binOp .add T x y Ty)(hx:σ.ev x=some (.sc (.int .i64 m)))(hy:σ.ev y=some (.sc (.int .i64 n)))(hb:I64 (m+n)):WV P C o σ (.sc (.int .i64 (m+n))) :=
 WV.sc fun G a w ok=>by unfold execOp;simp [ho,ok.evs hx,ok.evs hy,eqGuard,binOp,Op.intArith,hb.wrap]
theorem WV.sub {T Ty:TypeId} {x y:Operand} {m n:Int} (ho:o.op=.binOp .sub T x y Ty)(hx:σ.ev x=some (.sc (.int .i64 m)))(hy:σ.ev y=some (.sc (.int .i64 n)))(hb:I64 (m-n)):WV P C o σ (.sc (.int .i64 (m-n))) :=
 WV.sc fun G a w ok=>by unfold execOp;simp [ho,ok.evs hx,ok.evs hy,eqGuard,binOp,Op.intArith,hb.wrap]
theorem WV.mul {T Ty:TypeId} {x y:Operand} {m n:Int} (ho:o.op=.binOp .mul T x y Ty)(hx:σ.ev x=some (.sc (.int .i64 m)))(hy:σ.ev y=some (.sc (.int .i64 n)))(hb:I64 (m*n)):WV P C o σ (.sc (.int .i64 (m*n))) :=
 WV.sc fun G a w ok=>by unfold execOp;simp [ho,ok.evs hx,ok.evs hy,eqGuard,binOp,Op.intArith,hb.wrap]
theorem WV.lss {T Ty:TypeId} {x y:Operand} {k:IntKind} {m n:Int} (ho:o.op=.binOp .lss T x y Ty)(hx:σ.ev x=some (.sc (.int k m)))(hy:σ.ev y=some (.sc (.int k n))):WV P C o σ (.sc (.bool (decide (m<n)))) :=
 WV.sc fun G a w ok=>by unfold execOp;simp [ho,ok.evs hx,ok.evs hy,eqGuard,binOp,Op.intCmp]
theorem WV.leq {T Ty:TypeId} {x y:Operand} {k:IntKind} {m n:Int} (ho:o.op=.binOp .leq T x y Ty)(hx:σ.ev x=some (.sc (.int k m)))(hy:σ.ev y=some (.sc (.int k n))):WV P C o σ (.sc (.bool (decide (m≤n)))) :=
 WV.sc fun G a w ok=>by unfold execOp;simp [ho,ok.evs hx,ok.evs hy,eqGuard,binOp,Op.intCmp]
theorem WV.gtr {T Ty:TypeId} {x y:Operand} {k:IntKind} {m n:Int} (ho:o.op=.binOp .gtr T x y Ty)(hx:σ.ev x=some (.sc (.int k m)))(hy:σ.ev y=some (.sc (.int k n))):WV P C o σ (.sc (.bool (decide (n<m)))) :=
 WV.sc fun G a w ok=>by unfold execOp;simp [ho,ok.evs hx,ok.evs hy,eqGuard,binOp,Op.intCmp]
theorem WV.geq {T Ty:TypeId} {x y:Operand} {k:IntKind} {m n:Int} (ho:o.op=.binOp .geq T x y Ty)(hx:σ.ev x=some (.sc (.int k m)))(hy:σ.ev y=some (.sc (.int k n))):WV P C o σ (.sc (.bool (decide (n≤m)))) :=
 WV.sc fun G a w ok=>by unfold execOp;simp [ho,ok.evs hx,ok.evs hy,eqGuard,binOp,Op.intCmp]
theorem WV.eql {T Ty:TypeId} {x y:Operand} {k:IntKind} {m n:Int} (ho:o.op=.binOp .eql T x y Ty)(hx:σ.ev x=some (.sc (.int k m)))(hy:σ.ev y=some (.sc (.int k n))):WV P C o σ (.sc (.bool (decide (m=n)))) :=
 WV.sc fun G a w ok=>by unfold execOp;simp [ho,ok.evs hx,ok.evs hy,eqGuard,binOp,Op.intCmp];rfl
theorem WV.neq {T Ty:TypeId} {x y:Operand} {k:IntKind} {m n:Int} (ho:o.op=.binOp .neq T x y Ty)(hx:σ.ev x=some (.sc (.int k m)))(hy:σ.ev y=some (.sc (.int k n))):WV P C o σ (.sc (.bool (!decide (m=n)))) :=
 WV.sc fun G a w ok=>by unfold execOp;simp [ho,ok.evs hx,ok.evs hy,eqGuard,binOp,Op.intCmp];rfl
theorem WV.not {T:TypeId} {x:Operand} {b:Bool} (ho:o.op=.unOp .not T x)(hx:σ.ev x=some (.sc (.bool b))):WV P C o σ (.sc (.bool (!b))) :=
 WV.sc fun G a w ok=>by unfold execOp;simp [ho,ok.evs hx,Op.unary]
theorem WV.beq {T Ty:TypeId} {x y:Operand} {b c:Bool} (ho:o.op=.binOp .eql T x y Ty)(hT:P.underlying T=some .bool)(hx:σ.ev x=some (.sc (.bool b)))(hy:σ.ev y=some (.sc (.bool c))):WV P C o σ (.sc (.bool (b == c))) :=
 WV.sc fun G a w ok=>by unfold execOp;simp [ho,ok.evs hx,ok.evs hy,eqGuard,binOp,run_equal_bool w T b c hT]
theorem WV.bne {T Ty:TypeId} {x y:Operand} {b c:Bool} (ho:o.op=.binOp .neq T x y Ty)(hT:P.underlying T=some .bool)(hx:σ.ev x=some (.sc (.bool b)))(hy:σ.ev y=some (.sc (.bool c))):WV P C o σ (.sc (.bool (!(b == c)))) :=
 WV.sc fun G a w ok=>by unfold execOp;simp [ho,ok.evs hx,ok.evs hy,eqGuard,binOp,run_equal_bool w T b c hT]
def scs:List AV→Option (List Value)
 | []=>some []
 | .sc v::r=>(scs r).map (v::·)
 | _=>none
theorem scs_of {G:Gh}:∀ {l:List AV} {xs:List Value},scs l=some xs→∀ {cs:List Value},cs.length=l.length→(∀ (i:Nat) av u,l[i]?=some av→cs[i]?=some u→R G av u)→cs=xs:=by
 intro l
 induction l with
 | nil=>intro xs h cs hl _;cases h;simp_all
 | cons a r ih =>
  intro xs h cs hl hc
  cases a with
  | sc v =>
   cases hr:scs r with
   | none=>simp [scs,hr] at h
   | some ys =>
    simp [scs,hr] at h
    subst h
    cases cs with
    | nil=>simp at hl
    | cons u us =>
     have h0:=(hc 0 (.sc v) u rfl rfl).sc_eq
     have:=ih hr (cs:=us) (by simpa using hl) (fun i av x p q=>hc (i+1) av x (by simpa using p) pF)
     rw [h0,this]
  | _=>simp [scs] at h
theorem Ok.agg {G:Gh} {a:Act} {w:World} (ok:Ok C σ G a w) {x:Operand} {l:List AV} {xs:List Value} (hx:σ.ev x=some (.ag l)) (hs:scs l=some xs):a.eval x=.agg xs.toArray:=by
 obtain ⟨cs,e,h1,h2⟩:=(ok.evr hx).2.ag_of
 rw [e,← scs_of hs (cs:=cs.toList) pz (fun i av u p q=>h2 i av u p pF)]
theorem WV.ane {T Ty:TypeId} {x y:Operand} {l m:List AV} {xs ys:List Value} {b:Bool} (ho:o.op=.binOp .neq T x y Ty) (hx:σ.ev x=some (.ag l)) (h1:scs l=some xs) (hy:σ.ev y=some (.ag m)) (h2:scs m=some ys)
  (hg:P.eqGuardType P.depth T=false) (he:∀ w,(Op.equalIn 10000 T (.agg xs.toArray) (.agg ys.toArray)).run P w=.ok b w):WV P C o σ (.sc (.bool (!b))) :=
 WV.sc fun G a w ok=>by unfold execOp;simp [ho,ok.agg hx h1,ok.agg hy h2,run_eqGuard_agg w _ T x y _ _ hg,run_neq_struct,he]
theorem WV.seq_ {T Ty:TypeId} {x y:Operand} {s t:List UInt8} (ho:o.op=.binOp .eql T x y Ty)(hx:σ.ev x=some (.sc (.string (bs s))))(hy:σ.ev y=some (.sc (.string (bs t)))):WV P C o σ (.sc (.bool (s == t))) :=
 WV.sc fun G a w ok=>by unfold execOp;simp [ho,ok.evs hx,ok.evs hy,eqGuard,binOp,Op.stringOp,bs_toList]
theorem WV.sne {T Ty:TypeId} {x y:Operand} {s t:List UInt8} (ho:o.op=.binOp .neq T x y Ty)(hx:σ.ev x=some (.sc (.string (bs s))))(hy:σ.ev y=some (.sc (.string (bs t)))):WV P C o σ (.sc (.bool (!(s == t)))) :=
 WV.sc fun G a w ok=>by unfold execOp;simp [ho,ok.evs hx,ok.evs hy,eqGuard,binOp,Op.stringOp,bs_toList]
theorem WV.cat {T Ty:TypeId} {x y:Operand} {s t:List UInt8} (ho:o.op=.binOp .add T x y Ty)(hx:σ.ev x=some (.sc (.string (bs s))))(hy:σ.ev y=some (.sc (.string (bs t))))(hl:s.length+t.length<9223372036854775808):WV P C o σ (.sc (.string (bs (s++t)))) :=
 WV.sc fun G a w ok=>by
  have h1:¬ ((((bs s).size+(bs t).size:Nat):Int) > IntKind.i64.max):=by
   rw [bs_size,bs_size]
   have:IntKind.i64.max=9223372036854775807:=by decide
   rw [this];omega
  unfold execOp
  simp only [ho,ok.evs hx,ok.evs hy,eqGuard,binOp,Op.stringOp,if_neg h1]
  simp [bs_append]
theorem WV.extract {x:Operand} {i:Nat} {l:List AV} {av:AV} (ho:o.op=.extract x i)(hx:σ.ev x=some (.tu l))(hi:l[i]?=some av):WV P C o σ av :=
 WV.val (fun G a w ok=>by cases (ok.evr hx).1<;>grind) fun G a w ok=>by
  obtain⟨cs,e,h1,h2⟩:=(ok.evr hx).2.tu_of
  have hlt:i<cs.size:=by grind
  refine⟨cs[i],?_,h2 i av _ hi (pq hlt)⟩
  unfold execOp
  simp [ho,e,Instr.extract,pq hlt]
theorem WV.lenL {x:Operand} {T e:TypeId} {n:Nat} {rows:List (List AV)} (ho:o.op=.call { callee:=.builtin .len,args:=#[x],argTypes:=#[T] })(hT:P.underlying T=some (.slice e))(hx:σ.ev x=some (.ls n rows)) {m:Nat} (hm:rows.length=m):WV P C o σ (.sc (.int .i64 m)) :=
 WV.sc fun G a w ok=>by
  obtain⟨A,cap,ad,u,e,_⟩:=(ok.evr hx).2.pu_of.ls_of
  exact adI
theorem RowIs.len {w:World} {T n:Nat} {rows:List (List AV)} {v:Value} {φ:Nat→Prop} {X:Nat→Nat→(Nat→Prop)→AV→Value→Prop} (h:RowIs w T n rows v φ X):∃ A c,v=.slice A rows.length c:=by
 obtain⟨_,vs,Φ,h4,h5,_⟩:=h
 rcases h4.2 with⟨e,e2⟩|⟨g,cap,cur,e,_⟩
 all_goals simp_all
def AO.rows?:AO→Option (List (List AV))
 | .row _ _ rows=>some rows
 | .rwn _ _ rows=>some rows
 | .rof _ _ rows _ _ _=>some rows
 | .rwo _ _ rows _ _ _=>some rows
 | _=>none
theorem ObAt.len {G:Gh} {w:World} {k:Nat} {ob:AO} {rows:List (List AV)} (h:ObAt G w k ob)(hr:ob.rows?=some rows):∃ A c,G.h k=.slice A rows.length c:=by
 cases ob with
 | row T n rs=>cases hr;exact h.2.2.len
 | rwn T n rs=>cases hr;exact h.2.2.len
 | rof T n rs hi hj y=>cases hr;exact h.2.2.len
 | rwo T n rs hi hj y=>cases hr;exact h.2.2.len
 | _=>cases hr
theorem WV.lenS {x:Operand} {T e:TypeId} {k:Nat} {ob:AO} {rows:List (List AV)} (ho:o.op=.call { callee:=.builtin .len,args:=#[x],argTypes:=#[T] })(hT:P.underlying T=some (.slice e))(hx:σ.ev x=some (.sl k))(hk:look k σ.M=some ob)(hr:ob.rows?=some rows) {m:Nat} (hm:rows.length=m):WV P C o σ (.sc (.int .i64 m)) :=
 WV.sc fun G a w ok=>by
  have e:=(ok.evr hx).2.sl_of.1
  obtain⟨A,c,e2⟩:=(ok.ob k _ hk).2.2.len hr
  rw [e2]at e
  exact adI
theorem WV.lenN {x:Operand} {T e:TypeId} {A:Option Addr} {m c:Nat} (ho:o.op=.call { callee:=.builtin .len,args:=#[x],argTypes:=#[T] })(hT:P.underlying T=some (.slice e))(hx:σ.ev x=some (.sc (.slice A m c))):WV P C o σ (.sc (.int .i64 m)) :=
 WV.sc fun G a w ok=>by
  unfold execOp
  simp [ho,resolve,invoke,builtin,ok.evs hx,Builtin.len_,run_underlying hT,goInt]
theorem WV.lenB {x:Operand} {T:TypeId} {s:List UInt8} (ho:o.op=.call { callee:=.builtin .len,args:=#[x],argTypes:=#[T] })(hT:P.underlying T=some .string)(hx:σ.ev x=some (.sc (.string (bs s)))):WV P C o σ (.sc (.int .i64 s.length)) :=
 WV.sc fun G a w ok=>by
  unfold execOp
  simp [ho,resolve,invoke,builtin,ok.evs hx,Builtin.len_,run_underlying hT,goInt,bs_size]
theorem add_ptr {b j:Nat} (p:Addr)(h1:p.block=b)(h3:p.spot=none):(p.add j).block=b∧(p.add j).off=p.off+j∧(p.add j).spot=none:=by
 grind[Addr.add]
end
def fldB (P:Program)(T i:Nat):Option Nat :=
 match P.underlying T with
 | some (.struct fs) =>
  match fs[i]? with
  | some f=>if P.cellsOf f.type=0 then none else some f.offset
  | none=>none
 | _=>none
def aggB (P:Program)(T:TypeId):Option Bool :=
 match P.underlying T with
 | some (.struct _)|some (.array _ _)=>some true
 | some _=>some false
 | none=>none
def sizeB (P:Program)(T:TypeId):Option Nat:=(P.info? T).map (·.size)
section
variable {P:Program} {C:Cx} {σ σ':St} {o:Oper} {d:Tmp}
theorem run_sizeB {T n:Nat} (h:sizeB P T=some n)(w:World):(sizeOf T).run P w=.ok n w:=by
 unfold sizeB at h
 cases hi:P.info? T<;>simp_all[sizeOf,typeInfo]
theorem run_aggB {T:Nat} {b:Bool} (h:aggB P T=some b)(w:World):(isAgg T).run P w=.ok b w:=by
 unfold aggB at h
 cases hu:P.underlying T with
 | none=>simp [hu]at h
 | some u =>
  unfold isAgg
  rw [Sem.run_bind,run_underlying hu w]
  cases u<;>simp_all
theorem run_fld {T i off:Nat} (h:fldB P T i=some off)(p:Addr)(w:World):(Instr.fieldAt T (.pointer (some p)) i).run P w=.ok (.pointer (some (p.add off))) w:=by
 unfold fldB at h
 cases hu:P.underlying T with
 | none=>simp [hu] at h
 | some u =>
  cases u with
  | struct fs =>
   simp only [hu] at h
   cases hf:fs[i]? with
   | none=>simp [hf] at h
   | some f =>
    simp only [hf] at h
    by_cases h0:P.cellsOf f.type=0
    ·simp_all
    ·rw [if_neg h0] at h
     cases h
     cases hq:P.info? f.type<;>simp_all[Program.cellsOf,Instr.fieldAt,Instr.sureAddr,fieldPlace,run_underlying,sizeOf,typeInfo]
  | _=>simp [hu] at h
theorem WV.fieldP {T:TypeId} {x:Operand} {i off k r j:Nat} (ho:o.op=.fieldAddr T x i)(hf:fldB P T i=some off)(hx:σ.ev x=some (.pt k r j)):WV P C o σ (.pt k r (j+off)) :=
 WV.val (fun G a w ok=>by cases (ok.evr hx).1 with|pt _ _ _ h=>exact .pt _ _ _ h) fun G a w ok=>by
  obtain⟨p,e,h1,h2,h3⟩:=(ok.evr hx).2.pt_of
  obtain⟨q1,q2,q3⟩:=add_ptr (j:=off) p h1 h3
  exact⟨_,by simp_all[execOp,run_fld],.pt k r (j+off) _ q1 (by omega) q3⟩
theorem WV.fieldR {T:TypeId} {x:Operand} {i off:Nat} {cells:List AV} (ho:o.op=.fieldAddr T x i) (hf:fldB P T i=some off) (hx:σ.ev x=some (.pr cells)):WV P C o σ (.pr (cells.drop off)) :=
 WV.val (fun _ _ _ _=>.pr _) fun G a w ok=>by
  obtain ⟨p,u,e,h1,h2⟩:=(ok.evr hx).2.pr_of.pr_of
  refine ⟨.pointer (some (p.add off)),by simp_all[execOp,run_fld],.pu _ _ (.pr _ _ (fun j=>u (off+j)) (fun j av h=>?_) fun j av h=>?_)⟩
  all_goals simp_all[add_of_add]
theorem run_index {T e n:Nat} (hT:P.underlying T=some (.slice e)) (hn:sizeB P e=some n) (ad:Addr) (len cap:Nat) (k:IntKind) (z:Int) (h0:0≤z) (h1:z<len) (w:World) :
  (Instr.indexAt T (.slice (some ad) len cap) (.int k z)).run P w=.ok (.pointer (some (ad.add (z.toNat*n)))) w:=by
 simp [Instr.indexAt,asIntOf,run_underlying hT,h0,h1,run_sizeB hn]
theorem WV.indexL {T e n:Nat} {x y:Operand} {rows:List (List AV)} {k:IntKind} {z:Int} {r:List AV} (ho:o.op=.indexAddr T x y) (hT:P.underlying T=some (.slice e)) (hn:sizeB P e=some n)
  (hx:σ.ev x=some (.ls n rows)) (hy:σ.ev y=some (.sc (.int k z))) (h0:0≤z) (hr:rows[z.toNat]?=some r):WV P C o σ (.pr r) :=
 WV.val (fun _ _ _ _=>.pr _) fun G a w ok=>by
  obtain ⟨A,cap,ad,u,e1,h1,h2,h3,h4,_⟩:=(ok.evr hx).2.pu_of.ls_of
  have hlt:z.toNat<rows.length:=(List.getElem?_eq_some_iff.1 hr).1
  obtain rfl:=h2 aj
  refine ⟨.pointer (some (ad.add (z.toNat*n))),by unfold execOp;simp [ho,e1,ok.evs hy,run_index hT hn ad rows.length cap k z h0 (by omega)],.pu _ _ (.pr _ _ (fun j=>u z.toNat j) (fun j av h=>?_) fun j av h=>?_)⟩
  all_goals grind[add_of_add]
theorem RowIs.base {w:World} {T n:Nat} {rows:List (List AV)} {v:Value} {φ:Nat→Prop} {b:Nat} {X:Nat→Nat→(Nat→Prop)→AV→Value→Prop} (h:RowIs w T n rows v φ X) (hg:∀ g,v.ownBlock=some g→g=b) (hp:0<rows.length):∃ c,v=.slice (some ⟨b,0,none⟩) rows.length c:=by
 obtain ⟨_,vs,Φ,h4,h5,_⟩:=h
 rcases h4.2 with⟨e,e2⟩|⟨g,cap,cur,e,_⟩
 ·omega
 ·have:=hg g (by rw [e];rfl)
  grind
def AO.n?:AO→Option Nat
 | .row _ n _=>some n
 | .rwn _ n _=>some n
 | .rof _ n _ _ _ _=>some n
 | .rwo _ n _ _ _ _=>some n
 | _=>none
theorem ObAt.base {G:Gh} {w:World} {k n:Nat} {ob:AO} {rows:List (List AV)} (h:ObAt G w k ob) (hr:ob.rows?=some rows) (hn:ob.n?=some n) (hp:0<rows.length):G.n k=n∧∃ c,G.h k=.slice (some ⟨G.b k,0,none⟩) rows.length c:=by
 cases ob with
 | row T n rs=>cases hr;cases hn;exact ⟨h.1,h.2.2.base h.2.1 hp⟩
 | rwn T n rs=>cases hr;cases hn;exact ⟨h.1,h.2.2.base h.2.1 hp⟩
 | rof T n rs hi hj y=>cases hr;cases hn;exact ⟨h.1,h.2.2.base h.2.1 hp⟩
 | rwo T n rs hi hj y=>cases hr;cases hn;exact ⟨h.1,h.2.2.base h.2.1 hp⟩
 | _=>cases hr
theorem WV.indexS {T e n k:Nat} {ob:AO} {x y:Operand} {rows:List (List AV)} {q:IntKind} {z:Int} (ho:o.op=.indexAddr T x y) (hT:P.underlying T=some (.slice e)) (hn:sizeB P e=some n)
  (hx:σ.ev x=some (.sl k)) (hy:σ.ev y=some (.sc (.int q z))) (hk:look k σ.M=some ob) (hr:ob.rows?=some rows) (hn2:ob.n?=some n) (h0:0≤z) (h1:z < rows.length):WV P C o σ (.pt k z.toNat 0) :=
 WV.val (fun G a w ok=>.pt _ _ _ (ok.ob k _ hk).1) fun G a w ok=>by
  have e1:=(ok.evr hx).2.sl_of.1
  obtain ⟨hn3,c,e2⟩:=(ok.ob k _ hk).2.2.base hr hn2 aj
  rw [e2] at e1
  obtain ⟨q1,q2,q3⟩:=add_ptr (j:=z.toNat*n) (⟨G.b k,0,none⟩:Addr) rfl rfl
  refine ⟨_,by unfold execOp;simp [ho,e1,ok.evs hy,run_index hT hn _ rows.length c q z h0 h1],.pt k z.toNat 0 _ q1 ?_ q3⟩
  rw [q2,hn3];simp
theorem RP.bd {F:View} {av:AV} {v:Value} (r:RP F av v)(nk:Nat):Bd nk av:=by
 induction r with
 | sc v=>exact .sc v
 | ls n rows A cap ad u _ _ _ _ _ _=>exact .ls n rows
 | pr cells p u _ _ _=>exact .pr cells
 | ag l cs h1 _ ih =>
  refine .ag l fun i x hx=>?_
  exact afu
 | tu l cs h1 _ ih =>
  refine .tu l fun i x hx=>?_
  exact afu
 | fn f l cs h1 _ ih =>
  refine .fn f l fun i x hx=>?_
  exact afu
def AO.from_:AO→Nat→Nat→Option (List AV)
 | .box _ cells,0,j=>some (cells.drop j)
 | .box _ _,_+1,_=>none
 | .row _ _ rows,i,j=>(rows[i]?).map (·.drop j)
 | .rwn _ _ rows,i,j=>(rows[i]?).map (·.drop j)
 | .rof _ _ _ _ _ _,_,_=>none
 | .rwo _ _ _ _ _ _,_,_=>none
 | .bld _ _ _,_,_=>none
 | .opq _,_,_=>none
theorem addr_eq {p:Addr} {b f:Nat} (h1:p.block=b)(h2:p.off=f)(h3:p.spot=none):p =⟨b,f,none⟩:=by
 cases p;simp_all
theorem add_flat(b f j:Nat):(⟨b,f,none⟩:Addr).add j =⟨b,f+j,none⟩:=by
 simp[Addr.add]
theorem RowIs.cell_at {w:World} {T n:Nat} {rows:List (List AV)} {v:Value} {φ:Nat→Prop} {b:Nat} {X:Nat→Nat→(Nat→Prop)→AV→Value→Prop} (h:RowIs w T n rows v φ X) (hg:∀ g,v.ownBlock=some g→g=b) {i j:Nat} {r:List AV} {av:AV} (hr:rows[i]?=some r) (hm:r[j]?=some av) :
  ∃ u,w.cell? ⟨b,i*n+j,none⟩=some u∧∃ ψ,X i j ψ av u:=by
 have hb:=h.base hg (by have:=(List.getElem?_eq_some_iff.1 hr).1;omega)
 obtain ⟨hrl,vs,Φ,h4,h5,h7,_,_,_,h8,h6⟩:=h
 have hi:i<rows.length:=(List.getElem?_eq_some_iff.1 hr).1
 have hv:vs[i]?=some vs[i]:=aB (by omega)
 have e1:=h8 i r _ hr hv
 have hj:j<vs[i].length:=by rw [e1];exact (List.getElem?_eq_some_iff.1 hm).1
 have hvl:∀ r∈vs,r.length=n:=by
  intro r' hr'
  obtain ⟨q,hq,rfl⟩:=fZ hr'
  have:=h8 q rows[q] vs[q] (aB (by omega)) (aB hq)
  rw [this];exact hrl _ (fA _)
 obtain ⟨A,c,hA,hrd,hat,_⟩:=rd_of_own h4 hvl rfl rfl
 obtain ⟨c2,hb2⟩:=hb
 rw [hb2] at hA
 injection hA with hA _ _
 subst hA
 obtain ⟨ad,had,_,hc⟩:=Rd.at_ (k:=i) hrd aj
 injection had with had
 subst had
 refine ⟨_,?_,Φ i j,h6 i r _ j av _ hr hv hm (aB hj)⟩
 grind[add_flat]
theorem Ok.cell {G:Gh} {a:Act} {w:World} (ok:Ok C σ G a w) {k i j m:Nat} {ob:AO} {l:List AV} {av:AV} {p:Addr} (hk:look k σ.M=some ob)(hf:ob.from_ i j=some l)(hm:l[m]?=some av)
  (h1:p.block=G.b k)(h2:p.off=i*G.n k+j)(h3:p.spot=none)(ho:av.own=false):∃ u,w.cell? (p.add m)=some u∧R G av u∧Bd σ.nk av:=by
 obtain rfl:=addr_eq h1 h2 h3
 have h:=ok.ob k ob hk
 cases ob with
 | box T cells =>
  cases i with
  | succ i=>simp [AO.from_]at hf
  | zero =>
   simp only [AO.from_,Option.some.injEq]at hf
   subst hf
   rw [I7]at hm
   obtain⟨_,cs,Φ,hb,hs,_,_,hc⟩:=h.2.2
   have hlt:j+m<cs.size:=by grind
   refine⟨cs[j+m],?_,(hc _ _ _ hm (pq hlt)).r ho,h.2.1 _ _ hm⟩
   rw [add_flat,uG,mJ,hb.cell]
   simp
 | row T n rows =>
  simp only [AO.from_]at hf
  cases hr:rows[i]? with
  | none=>simp [hr]at hf
  | some r =>
   simp [hr]at hf
   subst hf
   rw [I7]at hm
   obtain⟨hn,hg,hR⟩:=h.2.2
   obtain⟨u,hu,Ψ,hX⟩:=hR.cell_at hg hr hm
   have hp:RP G.F av u:=hX
   exact aeb
 | rwn T n rows =>
  simp only [AO.from_]at hf
  cases hr:rows[i]? with
  | none=>simp [hr]at hf
  | some r =>
   simp [hr]at hf
   subst hf
   rw [I7]at hm
   obtain⟨hn,hg,hR⟩:=h.2.2
   obtain⟨u,hu,Ψ,hX⟩:=hR.cell_at hg hr hm
   have hp:=OW.p hX ho
   exact aeb
 | rof T n rows hi hj y=>cases hf
 | rwo T n rows hi hj y=>cases hf
 | bld T e l=>cases hf
 | opq q=>cases hf
theorem run_load1 {T:TypeId} {p:Addr} {u:Value} {w:World} (hT:aggB P T=some false)(h:w.cell? p=some u):(Instr.loadAt T (.pointer (some p))).run P w=.ok u w:=by
 simp_all[Instr.loadAt,Instr.sureAddr,loadVar,run_aggB]
theorem run_loadN {T n:Nat} {p:Addr} {cs:List Value} {w:World} (hT:aggB P T=some true)(hn:sizeB P T=some n)(hl:cs.length=n)(h:∀ j v,cs[j]?=some v→w.cell? (p.add j)=some v):(Instr.loadAt T (.pointer (some p))).run P w=.ok (.agg cs.toArray) w:=by
 have:=run_loadCells_list (P:=P) w p cs h
 simp_all[Instr.loadAt,Instr.sureAddr,loadVar,run_aggB,run_sizeB]
theorem add_zero'(p:Addr):p.add 0=p:=by simp [Addr.add]
theorem WV.load1 {T:TypeId} {x:Operand} {k i j:Nat} {ob:AO} {l:List AV} {av:AV} (ho:o.op=.load T x)(hT:aggB P T=some false)
  (hx:σ.ev x=some (.pt k i j))(hk:look k σ.M=some ob)(hf:ob.from_ i j=some l)(hm:l[0]?=some av)(hw:av.own=false):WV P C o σ av :=
 WV.val (fun G a w ok=>by
  obtain⟨p,e,h1,h2,h3⟩:=(ok.evr hx).2.pt_of
  obtain⟨u,_,_,hb⟩:=ok.cell hk hf hm h1 h2 h3 hw
  exact hb) fun G a w ok=>by
  obtain⟨p,e,h1,h2,h3⟩:=(ok.evr hx).2.pt_of
  obtain⟨u,hu,hr,_⟩:=ok.cell hk hf hm h1 h2 h3 hw
  simp_all[add_zero',execOp,run_load1]
theorem WV.load1R {T:TypeId} {x:Operand} {cells:List AV} {av:AV} (ho:o.op=.load T x)(hT:aggB P T=some false)
  (hx:σ.ev x=some (.pr cells))(hm:cells[0]?=some av):WV P C o σ av :=
 WV.val (fun G a w ok=>by
  obtain⟨p,u,e,h1,h2⟩:=(ok.evr hx).2.pr_of.pr_of
  exact (h2 0 av hm).bd _) fun G a w ok=>by
  obtain⟨p,u,e,h1,h2⟩:=(ok.evr hx).2.pr_of.pr_of
  have hu:=ok.fw _ _ (h1 0 av hm).1
  rw [add_zero'] at hu
  exact⟨u 0,by simp_all[execOp,run_load1],.pu _ _ (h2 0 av hm)⟩
theorem list_ofT {α:Type} (Q:Nat→α→Prop):∀ (n:Nat),(∀ j,j<n→∃ u,Q j u)→∃ l:List α,l.length=n∧∀ j u,l[j]?=some u→Q j u:=by
 intro n
 induction n with
 | zero=>simp
 | succ n ih =>
  intro h
  obtain⟨l,hl,hq⟩:=ih fun j hj=>h j aj
  obtain⟨u,hu⟩:=h n aj
  refine⟨l++[u],by simp [hl],fun j v hv=>?_⟩
  grind
theorem WV.loadN {T n:Nat} {x:Operand} {k i j:Nat} {ob:AO} {l l':List AV} (ho:o.op=.load T x)(hT:aggB P T=some true)(hn:sizeB P T=some n)
  (hx:σ.ev x=some (.pt k i j))(hk:look k σ.M=some ob)(hf:ob.from_ i j=some l)(hl:l.take n=l')(hlen:l'.length=n)(hw:l'.all (fun av=>!av.own)=true):WV P C o σ (.ag l') :=
 have hw':∀ (m:Nat) av,l'[m]?=some av→av.own=false:=fun m av h=>by grind
 have hle:n≤l.length:=by grind
 have hat:∀ m av,l'[m]?=some av→l[m]?=some av:=fun m av h=>by
  exact adq
 WV.val (fun G a w ok=>by
  obtain⟨p,e,h1,h2,h3⟩:=(ok.evr hx).2.pt_of
  refine .ag _ fun m av hm=>?_
  obtain⟨u,_,_,hb⟩:=ok.cell hk hf (hat m av hm) h1 h2 h3 (hw' m av hm)
  exact hb) fun G a w ok=>by
  obtain⟨p,e,h1,h2,h3⟩:=(ok.evr hx).2.pt_of
  obtain⟨cs,hcl,hcq⟩:=list_ofT (fun m u=>w.cell? (p.add m)=some u∧∀ av,l'[m]?=some av→R G av u) n fun m hm=>by
   have hg:l'[m]?=some l'[m]:=aB (by omega)
   obtain⟨u,hu,hr,_⟩:=ok.cell hk hf (hat m _ hg) h1 h2 h3 (hw' m _ hg)
   simp_all
  refine⟨.agg cs.toArray,by unfold execOp;simp [ho,e,run_loadN hT hn hcl fun j v h=>(hcq j v h).1],.ag _ _ (by simp [hcl,hlen]) fun m av u hm hu=>(hcq m u Jr).2 av hm⟩
theorem WV.loadNR {T n:Nat} {x:Operand} {l l':List AV} (ho:o.op=.load T x)(hT:aggB P T=some true)(hn:sizeB P T=some n)
  (hx:σ.ev x=some (.pr l))(hl:l.take n=l')(hlen:l'.length=n):WV P C o σ (.ag l') :=
 have hat:∀ m av,l'[m]?=some av→l[m]?=some av:=fun m av h=>by
  exact adq
 WV.val (fun G a w ok=>by
  obtain⟨p,u,e,h1,h2⟩:=(ok.evr hx).2.pr_of.pr_of
  exact .ag _ fun m av hm=>(h2 m av (hat m av hm)).bd _) fun G a w ok=>by
  obtain⟨p,u,e,h1,h2⟩:=(ok.evr hx).2.pr_of.pr_of
  have hh:∀ (j:Nat) v,((List.range n).map u)[j]?=some v→w.cell? (p.add j)=some v:=fun j v h=>by
   have hj:j<n:=by grind
   simp [hj] at h
   have hg:l'[j]?=some l'[j]:=aB (by omega)
   rw [← h];exact ok.fw _ _ (h1 j _ (hat j _ hg)).1
  refine⟨.agg ((List.range n).map u).toArray,by unfold execOp;simp only [ho,e];rw [Sem.run_bind,run_loadN hT hn (by simp) hh];rfl,.ag _ _ (by simp [hlen]) fun m av v hm hv=>?_⟩
  have hj:m<n:=by grind
  simp [hj] at hv
  rw [← hv];exact .pu _ _ (h2 m av (hat m av hm))
end
def St.new(σ:St)(ob:AO):St:={ σ with M:=(σ.nk,ob)::σ.M,nk:=σ.nk+1 }
def St.upd(σ:St)(k:Nat)(ob:AO):St:={ σ with M:=(k,ob)::σ.M }
def AV.cells:AV→List AV
 | .ag l=>l
 | av=>[av]
def AV.cellB:AV→Bool
 | .sc v=>v.oneCell'
 | .tu _=>false
 | .ow _ _ _=>false
 | _=>true
def AV.oneB:AV→Bool
 | .sc v=>v.oneCell'
 | .tu _=>false
 | .ag _=>false
 | .ow _ _ _=>false
 | _=>true
section
variable {P:Program} {C:Cx} {σ σ':St} {G G':Gh} {a:Act} {w w':World} {o:Oper} {d:Tmp}
theorem AO.bd_mono {nk nk':Nat} (h:nk≤nk') {ob:AO} (b:ob.bd nk):ob.bd nk':=by
 cases ob with
 | box T cells=>exact fun i av x=>(b i av x).mono h
 | row T n rows=>trivial
 | rwn T n rows=>trivial
 | rof T n rows hi hj y=>exact Bd.mono h b
 | rwo T n rows hi hj y=>exact Bd.mono h b
 | bld T e l=>trivial
 | opq q=>trivial
theorem Ok.add (ok:Ok C σ G a w) {ob:AO} (h:ObAt G w σ.nk ob) (hbd:ob.bd (σ.nk+1))
  (hown:∀ x,G.fp σ.nk x→C.may x∧x<w.heap.size∧(∀ k o,look k σ.M=some o→¬ G.fp k x)∧∀ p u,G.F p=some u→p.block≠x):Ok C (σ.new ob) G a w:=by
 have hl:∀ k o,look k (σ.new ob).M=some o→(k=σ.nk∧o=ob)∨(k≠σ.nk∧look k σ.M=some o):=fun k o hx=>by
  by_cases e:k=σ.nk
  ·subst e
   rw [show look σ.nk (σ.new ob).M=some ob from look_set_same] at hx
   simp_all
  ·rw [show look k (σ.new ob).M=look k σ.M from look_set_other e] at hx
   simp_all
 refine ⟨ok.sz,⟨ok.df.1,Nat.le_succ_of_le ok.df.2.1,ok.df.2.2⟩,fun i av x=>⟨(ok.tm i av x).1,(ok.tm i av x).2.1.mono (uH _),(ok.tm i av x).2.2⟩,ok.bel,ok.fw,ok.f0,ok.f1,?_,?_,?_,?_⟩
 ·intro k o x
  rcases hl k o x with⟨rfl,rfl⟩|⟨e,y⟩
  ·exact ⟨ou _,hbd,h⟩
  ·exact ⟨Nat.lt_succ_of_lt (ok.ob k o y).1,AO.bd_mono (uH _) (ok.ob k o y).2.1,(ok.ob k o y).2.2⟩
 ·intro k o x h1 h2
  rcases hl k o h1 with⟨rfl,rfl⟩|⟨e,y⟩
  ·simp_all
  ·exact ok.my k o x y h2
 ·intro k o k' o' x h1 h2 h3 h4
  rcases hl k o h1 with⟨rfl,rfl⟩|⟨e,y⟩
  ·grind
  ·rcases hl k' o' h2 with⟨rfl,rfl⟩|⟨e',y'⟩
   ·simp_all
   ·exact ok.dj k o k' o' x y y' h3 h4
 ·intro k o x p u h1 h2 h3
  rcases hl k o h1 with⟨rfl,rfl⟩|⟨e,y⟩
  ·simp_all
  ·exact ok.dF k o x p u y h2 h3
def Gh.with(G:Gh)(k:Nat)(b n:Nat)(h:Value)(φ:Nat→Prop):Gh :=
 ⟨G.F,fun q=>if q=k then b else G.b q,fun q=>if q=k then n else G.n q,fun q=>if q=k then h else G.h q,fun q=>if q=k then φ else G.fp q⟩
theorem Gh.with_le (G:Gh)(k:Nat)(b n:Nat)(h:Value)(φ:Nat→Prop):G.le (G.with k b n h φ) k:=⟨fun _ _ h=>h,fun q hq=>if_neg (by omega),fun q hq=>if_neg (by omega),fun q hq=>if_neg (by omega)⟩
theorem Gh.with_fp (G:Gh)(k:Nat)(b n:Nat)(h:Value)(φ:Nat→Prop):∀ q,q<k→(G.with k b n h φ).fp q=G.fp q:=fun q hq=>if_neg (by omega)
theorem Ok.newBox (ok:Ok C σ G a w) {cells:List AV} {cs:Array Value} (T:TypeId) (hs:cs.size=cells.length) (hc:∀ (i:Nat) av u,cells[i]?=some av→cs[i]?=some u→R G av u) (hb:∀ (i:Nat) av,cells[i]?=some av→Bd σ.nk av) :
  ∃ G',G.le G' σ.nk∧G'.b σ.nk=w.heap.size∧Ok C (σ.new (.box T cells)) G' a (w.alloc (.cells cs T)):=by
 have hle:=G.with_le σ.nk w.heap.size 0 undef (fun x=>x=w.heap.size)
 have hfp:=G.with_fp σ.nk w.heap.size 0 undef (fun x=>x=w.heap.size)
 have hbl:∀ x,x<w.heap.size→(w.alloc (.cells cs T)).heap[x]?=w.heap[x]?:=fun x hx=>Below.heap_alloc w _ x hx
 have ok1:Ok C σ (G.with σ.nk w.heap.size 0 undef (fun x=>x=w.heap.size)) a (w.alloc (.cells cs T)) :=
  ok.world (S:=fun _=>False) hle hfp (Kept.below ((Below.refl _ _).alloc (Nat.le_refl _) _)) (fun _ h=>h.elim) (fun k o x h1 h2=>hbl x (ok.my k o x h1 h2).2)
   (fun p u h=>(World.cell?_of_block (hbl _ (cell_block (ok.fw p u h)))).trans (ok.fw p u h)) (fun _ _ h=>.inl h)
 have e1:(G.with σ.nk w.heap.size 0 undef (fun x=>x=w.heap.size)).b σ.nk=w.heap.size:=if_pos rfl
 have e2:(G.with σ.nk w.heap.size 0 undef (fun x=>x=w.heap.size)).fp σ.nk=fun x=>x=w.heap.size:=if_pos rfl
 refine ⟨_,hle,e1,ok1.add ⟨by rw [e1,e2],cs,fun _ _=>False,?_,hs,fun _ _ h=>h.elim,fun _ _ _ h=>h.elim,fun i av u x y=>.inl ((hc i av u x y).mono hle (hb i av x))⟩ (fun i av x=>(hb i av x).mono (uH _)) ?_⟩
 ·simp_all[Blk.new]
 ·intro x hx
  rw [e2] at hx
  obtain rfl:x=w.heap.size:=hx
  refine ⟨.inl ok.bel.size,by simp,fun k o h1 h2=>?_,fun p u h=>?_⟩
  ·rw [hfp k (ok.ob k o h1).1] at h2
   have:=(ok.my k o _ h1 h2).2
   omega
  ·have:=cell_block (ok.fw p u h)
   omega
theorem cells_of {av:AV} {v:Value} (r:R G av v)(hB:av.cellB=true):v.cells.size=av.cells.length∧∀ (i:Nat)x u,av.cells[i]?=some x→v.cells[i]?=some u→R G x u:=by
 have one:∀ (av:AV)(v:Value),R G av v→v.oneCell'=true→v.cells.size=[av].length∧∀ (i:Nat)x u,[av][i]?=some x→v.cells[i]?=some u→R G x u:=fun av v r h=>by
  have hv:v.cells=#[v]:=by cases v<;>first|rfl|cases h
  grind
 cases av with
 | sc x =>
  have:=r.sc_eq
  subst this
  exact one _ _ r hB
 | ag l =>
  obtain⟨cs,rfl,h1,h2⟩:=r.ag_of
  exact⟨h1,h2⟩
 | tu l=>cases hB
 | ls n rows=>obtain⟨A,cap,ad,u,rfl,_⟩:=r.pu_of.ls_of;exact one _ _ r rfl
 | pr cells=>obtain⟨p,u,rfl,_⟩:=r.pr_of.pr_of;exact one _ _ r rfl
 | pt k i j=>obtain⟨p,rfl,_⟩:=r.pt_of;exact one _ _ r rfl
 | sl k=>exact one _ _ r r.sl_of.2
 | ow T n rows=>cases hB
 | fn f l=>obtain⟨cs,rfl,_⟩:=r.fn_of;exact one _ _ r (by obtain⟨g,x,y,e⟩:=fnV_or f cs;rw [e];rfl)
theorem cells_bd {nk:Nat} {av:AV} (b:Bd nk av):∀ (i:Nat)x,av.cells[i]?=some x→Bd nk x:=by
 have one:∀ av:AV,Bd nk av→∀ (i:Nat)x,[av][i]?=some x→Bd nk x:=fun av b i x h=>by
  grind
 cases av with
 | ag l=>cases b with|ag _ h=>exact h
 | _=>exact one _ b
theorem WO.box {T:TypeId} {x:Operand} {av:AV} {l:List AV} {n:Nat} (ho:o.op=.box T x) (hds:o.dst=some d) (hd:Nat.blt d C.N=true) (hx:σ.ev x=some av) (hB:av.cellB=true) (hl:av.cells=l) (hn:σ.nk=n):WO P C o σ ((σ.new (.box T l)).put d (.pt n 0 0)):=by
 intro G a w ok N Q' hN
 obtain ⟨hb,hr⟩:=ok.evr hx
 obtain ⟨h1,h2⟩:=cells_of hr hB
 obtain ⟨G',hle,hbb,ok'⟩:=ok.newBox T h1 h2 (cells_bd hb)
 refine fU ?_
 simp only [ho,Instr.box,newVar,newRow,Sem.run_bind,Sem.run_pure,run_newObj,Result.andThen_ok]
 show N (a.put o.dst _) _
 rw [hds]
 subst hl hn
 exact ajj
theorem WO.alloc {T:TypeId} {z:Value} {l:List AV} {n:Nat} (ho:o.op=.alloc T) (hz:(P.info? T).bind (·.zero)=some z) (hds:o.dst=some d) (hd:Nat.blt d C.N=true) (hl:z.cells.toList.map .sc=l) (hn:σ.nk=n):WO P C o σ ((σ.new (.box T l)).put d (.pt n 0 0)):=by
 intro G a w ok N Q' hN
 have hc:∀ (i:Nat) av u,l[i]?=some av→z.cells[i]?=some u→R G av u:=fun i av u x y=>by
  rw [← hl,bC] at x
  rw [show z.cells.toList[i]?=z.cells[i]? by simp,y] at x
  cases x
  exact .pu _ _ (.sc _)
 have hb:∀ (i:Nat) av,l[i]?=some av→Bd σ.nk av:=fun i av x=>by
  rw [← hl,bC] at x
  cases hq:z.cells.toList[i]? with
  | none=>simp [hq] at x
  | some u=>simp [hq] at x;rw [← x];exact .sc _
 obtain ⟨G',hle,hbb,ok'⟩:=ok.newBox (cells:=l) (cs:=z.cells) T (by rw [← hl];simp) hc hb
 cases hi:P.info? T with
 | none=>simp [hi] at hz
 | some i =>
  simp [hi] at hz
  refine fU ?_
  simp only [ho,Instr.alloc,zeroValue,typeInfo,newVar,newRow,Sem.run_bind,Sem.run_pure,run_newObj,Result.andThen_ok,run_program,hi,hz]
  show N (a.put o.dst _) _
  rw [hds]
  subst hn
  exact ajj
end
end
end Go.Proofs.YthohlofpphjofaaGreatDoor
