/- A walk that knows values as trees: a contract leaves the other objects alone. -/
import Derived.Test.YthohlofpphjofaaGreatDoorBkTGq
import Derived.Test.YthohlofpphjofaaGreatDoorG8Gq
set_option maxHeartbeats 8000000
set_option maxRecDepth 100000
set_option linter.unusedVariables false
set_option linter.unusedSimpArgs false
namespace Go.Proofs.YthohlofpphjofaaGreatDoor
theorem aen {p:Prop}(h:p:=by
 show (match look k M' with|some _=>G'.fp k|none=>G.fp k)=_
 rw [h]):p:=h
section
open Go.RowKit
section
variable {C:Cx} {σ:St}
theorem Tr.freezeI (k d:Nat) {T n:Nat} {rows rows':List (List AV)} (hk:look k σ.M=some (.rwn T n rows)) (hs:∀ r∈rows,∀ av∈r,av.shal d=true) (hr:(rows.map fun r=>r.map (AV.fz d))=rows'):Tr C σ (σ.upd k (.row T n rows')):=fun G a w ok=>by
 obtain ⟨hkn,_,hb1,hb2,hb3⟩:=ok.ob k _ hk
 obtain ⟨h1,vs,Φ,h2,h3,h4,h5,h6,h7,h8,h9⟩:=hb3
 classical
 let F':View:=fun p=>if ∃ i j,Φ i j p.block then w.cell? p else G.F p
 have hF:G.F.le F':=fun p u h=>by
  show (if _ then _ else _)=_
  rw [if_neg (fun e=>by obtain ⟨i,j,e⟩:=e;exact ok.dF k _ p.block p u hk (h6 i j _ e).1 h rfl)];exact h
 have hFn:∀ p u,F' p=some u→G.F p=some u∨((∃ i j,Φ i j p.block)∧w.cell? p=some u):=fun p u h=>by
  have h:(if ∃ i j,Φ i j p.block then w.cell? p else G.F p)=some u:=h
  by_cases e:∃ i j,Φ i j p.block
  ·rw [if_pos e] at h;exact .inr ⟨e,h⟩
  ·rw [if_neg e] at h;exact .inl h
 let G':Gh:={ (G.fpk k fun x=>(G.h k).ownBlock=some x) with F:=F' }
 have hle:G.le G' σ.nk:=⟨hF,fun _ _=>rfl,fun _ _=>rfl,fun _ _=>rfl⟩
 have hfs:G'.fp k=fun x=>(G.h k).ownBlock=some x:=fpk_same
 have hfo:∀ q,q≠k→G'.fp q=G.fp q:=fun q h=>fpk_other h
 have hl:∀ i o,look i (σ.upd k (.row T n rows')).M=some o→(i=k∧o=.row T n rows')∨(i≠k∧look i σ.M=some o):=fun i o hx=>by
  by_cases e:i=k
  ·subst e
   rw [show look i (σ.upd i (.row T n rows')).M=some (.row T n rows') from look_set_same] at hx
   cases hx
   exact .inl ⟨rfl,rfl⟩
  ·rw [show look i (σ.upd k (.row T n rows')).M=look i σ.M from look_set_other e] at hx
   exact .inr ⟨e,hx⟩
 have hφ:∀ i o x,look i (σ.upd k (.row T n rows')).M=some o→G'.fp i x→∃ o0,look i σ.M=some o0∧G.fp i x:=fun i o x h e=>by
  rcases hl i o h with⟨rfl,rfl⟩|⟨e1,y⟩
  ·rw [hfs] at e;exact ⟨_,hk,h5 x e⟩
  ·rw [hfo i e1] at e;exact ⟨_,y,e⟩
 refine ⟨G',ok.sz,ok.df,fun i av h=>⟨(ok.tm i av h).1,(ok.tm i av h).2.1,(ok.tm i av h).2.2.mono hle (ok.tm i av h).2.1⟩,ok.bel,fun p u h=>?_,fun p u h=>hF p u (ok.f0 p u h),fun p u h=>?_,fun i o h=>?_,fun i o x a1 a2=>?_,fun i o i' o' x a1 a2 a3 a4=>?_,fun i o x p u a1 a2 a3=>?_⟩
 ·exact aej
 ·rcases hFn p u h with h|⟨⟨i,j,h⟩,_⟩
  ·exact ok.f1 p u h
  ·exact .inr (ok.my k _ _ hk (h6 i j _ h).1).1
 ·rcases hl i o h with⟨rfl,rfl⟩|⟨e,y⟩
  ·refine ⟨hkn,trivial,hb1,hb2,?_⟩
   rw [hfs,← hr]
   refine ⟨fun r hrm=>?_,vs,fun _ _ _=>False,h2,by rw [dH];exact h3,h4,fun g hg=>hg,fun _ _ _ h=>h.elim,fun _ _ _ _ _ h=>h.elim,fun q r r' b1 b2=>?_,fun q r r' j av u b1 b2 b3 b4=>?_⟩
   ·obtain ⟨r0,h0,rfl⟩:=List.mem_map.1 hrm
    rw [dH];exact h1 r0 h0
   ·rw [bC] at b1
    cases h0:rows[q]? with
    | none=>simp [h0] at b1
    | some r0 =>
     simp only [h0,kG,Option.some.injEq] at b1
     subst b1
     rw [dH];exact h8 q r0 r' h0 b2
   ·rw [bC] at b1
    cases h0:rows[q]? with
    | none=>simp [h0] at b1
    | some r0 =>
     simp only [h0,kG,Option.some.injEq] at b1
     subst b1
     rw [bC] at b3
     cases hj0:r0[j]? with
     | none=>simp [hj0] at b3
     | some av0 =>
      simp only [hj0,kG,Option.some.injEq] at b3
      subst b3
      have x:OW G.F w av0 u (Φ q j):=h9 q r0 r' j av0 u h0 b2 hj0 b4
      exact OW.fix hF d x (fun p hp=>if_pos ⟨q,j,hp⟩) (hs r0 (aY h0) av0 (aY hj0))
  ·obtain ⟨a1,a2,a3⟩:=ok.ob i o y
   exact ⟨a1,a2,a3.keep hle a1 a2 (hfo i e) fun _ _=>rfl⟩
 ·obtain ⟨o0,b1,b2⟩:=hφ i o x a1 a2
  exact ok.my i o0 x b1 b2
 ·obtain ⟨o0,b1,b2⟩:=hφ i o x a1 a3
  obtain ⟨o1,c1,c2⟩:=hφ i' o' x a2 a4
  exact ok.dj i o0 i' o1 x b1 c1 b2 c2
 ·obtain ⟨o0,b1,b2⟩:=hφ i o x a1 a2
  rcases hFn p u a3 with h|⟨⟨q,j,h⟩,_⟩
  ·exact ok.dF i o0 x p u b1 b2 h
  ·intro e
   rw [e] at h
   have hik:=ok.dj i o0 k _ x b1 hk b2 (h6 q j _ h).1
   subst hik
   rw [hfs] at a2
   exact (h6 q j _ h).2 a2
end
theorem TU (e:En) (t:List UInt8):Ctr Tryz.prog 127 [.ag (sJ e),.pr [.sc (.string (bs t))]] (.sc (.bool (e.t == t))):=by
 refine jc Tryz.func127 Tryz.ntmps127 fun w0 F0=>?_;dsimp only [St.init,number,Nat.reduceAdd]
 exact wE
theorem agn (b:List En) (t:List UInt8) (hb:b.length≤100000):Ctr Tryz.prog 126 [.ls 5 (b.map sJ),.fn 127 [.pr [.sc (.string (bs t))]]] (.sc (.int .i64 (TV b t))):=by
 refine jc Tryz.func126 Tryz.ntmps126 fun w0 F0=>?_;dsimp only [St.init,number,Nat.reduceAdd]
 refine amy ?_
 refine W.loop (fun k:Nat=>k≤b.length∧∀ i (hi:i < k) (h:i < b.length),b[i].t≠t) (fun k=>⟨[(0,.ls 5 (b.map sJ)),(1,.fn 127 [.pr [.sc (.string (bs t))]]),(7,.sc (.int .i64 b.length)),(8,.sc (.int .i64 k))],[],0⟩) (fun k=>b.length - k) 0 ⟨by omega,fun i hi=>by omega⟩ (zqt id) fun k hk=>?_
 obtain ⟨hk,hno⟩:=hk
 by_cases hlt:k < b.length
 ·refine dG ?_
  refine WL.vl rfl (WV.callV (truH _) rfl (callF Tryz.func127 rfl rfl) rfl rfl rfl rfl rfl (TU b[k] t).g) ?_
  by_cases he:b[k].t=t
  ·have e:(b[k].t == t)=true:=by rw [he];simp
   have hn:=Lm hlt (fun i hi=>hno i hi aj) he
   have hI:TV b t=k:=by unfold TV;rw [hn,if_pos hlt]
   rw [e,hI]
   refine dG ?_
   exact W.ret vJ
  ·have e:(b[k].t == t)=false:=by simpa using he
   rw [e]
   refine dG ?_
   exact ⟨k+1,⟨by omega,fun i hi h=>by
    by_cases e:i=k
    ·subst e;exact he
    ·exact hno i aj h⟩,by omega,(zqt id)⟩
 ·have hI:TV b t=-1:=by
   refine if_neg fun h=>?_
   have:=vw h
   exact hno _ (by omega) h (by simpa using this)
  rw [hI]
  refine dG ?_
  exact W.ret vJ
theorem IY (b:List En) (t:List UInt8) (hb:b.length≤100000):Ctr Tryz.prog 72 [.ls 5 (b.map sJ),.sc (.string (bs t))] (.sc (.int .i64 (TV b t))):=by
 refine jc Tryz.func72 Tryz.ntmps72 fun w0 F0=>?_;dsimp only [St.init,number,Nat.reduceAdd]
 refine qP ?_
 refine WL.vl rfl (WV.mkf rfl rfl) ?_
 refine qP ?_
 refine WL.vl rfl (WV.lendV (truH _) rfl (callF Tryz.func126 rfl rfl) rfl rfl rfl rfl rfl rfl truST (agn b t hb).g) ?_
 refine qP ?_
 exact W.ret vJ
section
variable {B:World→View→Prop} {gl:Nat} {P:Program} {C:Cx} {σ:St} {G:Gh} {a:Act} {w:World}
theorem Ok.evs_bd (ok:Ok C σ G a w):∀ {xs:List Operand} {l:List AV},σ.evs xs=some l→∀ (i:Nat)x,l[i]?=some x→Bd σ.nk x:=fun {xs}=>by
 induction xs with
 | nil=>intro l h i x hx;cases h;simp at hx
 | cons y r ih =>
  intro l h i x hx
  unfold St.evs at h
  cases h1:σ.ev y with
  | none=>simp [h1]at h
  | some av =>
   cases h2:σ.evs r with
   | none=>simp [h1,h2]at h
   | some l' =>
    simp [h1,h2]at h
    subst h
    cases i with
    | zero=>cases hx;exact (ok.evr h1).1
    | succ i=>exact ih h2 i x (by simpa using hx)
theorem WV.mkb {f:FuncId} {o:Oper} {xs:Array Operand} {caps:List AV} (ho:o.op=.makeFunc (.func f) xs #[]) (hx:σ.evs xs.toList=some caps):WV P C o σ (.fn (f+1000000) caps) :=
 WV.val (fun G a w ok=>.fn _ _ (ok.evs_bd hx)) fun G a w ok=>by
  obtain ⟨e1,e2⟩:=ok.evl hx
  refine ⟨fnV (f+1000000) (xs.map a.eval),by unfold execOp;rw [fnV_hi];simp [ho,Instr.makeFunc],.fn _ _ _ (by simpa using e1) fun i av u p q=>e2 i av u p (by rw [← q];simp)⟩
theorem call_wpb {f:FuncId} {o:Oper} {y:Operand} {ts:Array TypeId} {cs:Array Value} {R':Ending→World→Prop} {N:Act→World→Prop} {Q':Exit→Act→World→Prop} (ho:o.op=.call { callee:=.value y,args:=#[],argTypes:=ts })(hc:∀ vs w,(callFunc f vs).run P w=.ok (.enter f vs) w)
  (ey:a.eval y=.func (.func f) cs #[])(h:Calls P f cs.toList.toArray w R')(hN:∀ e w1,R' e w1→∃ v,e=.returned v∧N (a.put o.dst v) w1):o.wp P a w N Q':=by
 refine fU ?_
 have e3:(cs++(#[]:Array Operand).map a.eval++#[]:Array Value)=cs.toList.toArray:=by apply uI;simp
 simp only [ho,resolve,ey,Deferred.ofValue,invoke,Sem.run_bind,Sem.run_pure,Result.andThen_ok,hc,Oper.upon,e3]
 refine h.mono fun e w1 hr=>?_
 obtain⟨v,rfl,hn⟩:=hN e w1 hr
 exact hn
def calB (σ:St):Op→Option (FuncId×List AV)
 | .call { callee:=.value y,args:=⟨[]⟩,argTypes:=_ } =>
  match σ.ev y with
  | some (.fn g caps)=>bif Nat.blt g 1000000 then none else some (g-1000000,caps)
  | _=>none
 | _=>none
variable {ops:Array Oper} {o:Oper} {rest:List Oper} {Q:Exit→St→Prop} {d:Tmp}
theorem WL.ctb (hB:Holds B gl C) {f:FuncId} {args args':List AV} {res res':AV} {M M' M2:List (Nat×AO)} {nk nk' n2:Nat} {t:List (Nat×AV)} {M0:List (Nat×AO)} {n0:Nat} (ks:List Nat) (hg:o.guard=none) (he:calB ⟨t,M0,n0⟩ o.op=some (f,args')) (hc:∀ vs w,(callFunc f vs).run P w=.ok (.enter f vs) w)
  (h:Cto B gl P f args M nk res M' nk') (hks:ksB ks nk n0=true) (ha:args.map (AV.ren (rhoC ks nk n0))=args') (hp:args.all (AV.inn nk)=true) (hM:TrM ⟨t,M0,n0⟩ (rhoC ks nk n0) nk M)
  (hq:(Nat.ble nk nk' && M'.all (fun x=>x.2.inn nk') && M'.all (fun x=>Nat.blt x.1 nk') && res.inn nk' && dstOk C.N o.dst)=true) (hr:res.ren (rhoC ks nk n0)=res') (hM2:renM (rhoC ks nk n0) M'++remL ks M0=M2) (hn2:n0+(nk' - nk)=n2)
  (k:WL P C ops rest ((⟨t,M2,n2⟩:St).set o.dst res') Q):WL P C ops (o::rest) ⟨t,M0,n0⟩ Q:=by
 subst hM2 hn2
 simp only [dw] at hq
 refine WL.op hg ?_ k
 unfold calB at he
 split at he
 ·rename_i y ts ho
  split at he
  ·rename_i g caps hy
   cases hb:Nat.blt g 1000000 with
   | true=>rw [hb] at he;cases he
   | false =>
    rw [hb] at he
    have he:some (g - 1000000,caps)=some (f,args'):=he
    obtain ⟨e1,e2⟩:=Prod.mk.inj (Option.some.inj he)
    subst e1 e2
    intro G a w ok N Q' hN
    obtain ⟨cs,ey,h1,h2⟩:=(ok.evr hy).2.fn_of
    have ey2:a.eval y=.func (.func (g - 1000000)) cs #[]:=by rw [ey];unfold fnV;rw [hb];rfl
    refine call_wpb ho hc ey2 (ok.ctoC hB ks (vs:=cs.toList) (by rw [LJ];exact h1) (fun i av u p q=>h2 i av u p pF) h hks ha hp hM hq.1.1.1.1 hq.1.1.1.2 hq.1.1.2 hq.1.2 hr) fun e w1 ⟨v,G'',he,ok',hr',hb⟩=>⟨v,he,hN _ _ _ (ok'.set hr' hb (dstOk_of hq.2))⟩
  ·cases he
 ·cases he
end
section
variable {B:World→View→Prop} {gl:Nat} {P:Program} {f:FuncId} {args:List AV} {res:AV} {M M' X:List (Nat×AO)} {nk nk':Nat}
theorem Kept.mono_ {S S':Nat→Prop} {w w':World} (h:Kept S w w')(hs:∀ x,S x→S' x):Kept S' w w':=⟨h.os,h.tape,h.output,h.size,fun i hi hn=>h.block i hi fun x=>hn (hs i x)⟩
theorem Obs.fr {G:Gh} {w:World} (hO:Obs G w (M++X) nk):Obs G w M nk∧∀ k o,look k M=some o→look k (M++X)=some o:=by
 have hM:∀ k o,look k M=some o→look k (M++X)=some o:=fun k o h=>by rw [look_app_,h];rfl
 exact ⟨⟨hO.fw,fun k o h=>hO.ob k o (hM k o h),fun k o x h=>hO.my k o x (hM k o h),fun k o k' o' x h h'=>hO.dj k o k' o' x (hM k o h) (hM k' o' h'),fun k o x p u h=>hO.dF k o x p u (hM k o h)⟩,hM⟩
theorem Cto.frame (h:Cto B gl P f args M nk res M' nk') (hX:∀ k o,look k X=some o→look k M=none∧look k M'=none):Cto B gl P f args (M++X) nk res (M'++X) nk':=by
 intro w G vs hB hlo hO hl hR
 obtain ⟨hO1,hM⟩:=hO.fr
 have hXl:∀ k o,look k X=some o→look k (M++X)=some o:=fun k o h=>by rw [look_app_,(hX k o h).1,h];rfl
 have hf:∀ x,fpM G M x→fpM G (M++X) x:=fun x ⟨k,o,h1,h2⟩=>⟨k,o,hM k o h1,h2⟩
 have hnX:∀ k o x,look k X=some o→G.fp k x→¬ fpM G M x:=fun k o x h1 h2 ⟨k',o',h3,h4⟩=>by
  have:=hO.dj k o k' o' x (hXl k o h1) (hM k' o' h3) h2 h4
  subst this
  rw [(hX k o h1).1] at h3;cases h3
 refine (h w G vs hB (fun x hx=>hlo x (hf x hx)) hO1 hl hR).mono ?_
 rintro e w1 ⟨v,G',he,q1,q2,q3,q4,q5,q6,q7,q8,q9⟩
 let G'':Gh:=⟨G'.F,G'.b,G'.n,G'.h,fun k=>match look k M' with
  | some _=>G'.fp k
  | none=>G.fp k⟩
 have hfM:∀ k o,look k M'=some o→G''.fp k=G'.fp k:=fun k o h=>by
  exact aen
 have hfX:∀ k,look k M'=none→G''.fp k=G.fp k:=fun k h=>by
  exact aen
 have hle1:G'.le G'' nk':=⟨fun _ _ h=>h,fun _ _=>rfl,fun _ _=>rfl,fun _ _=>rfl⟩
 have hle0:G.le G'' nk:=⟨q2,fun k hk=>(q6 k hk).1,fun k hk=>(q6 k hk).2.1,fun k hk=>(q6 k hk).2.2⟩
 have hlk:∀ k o,look k (M'++X)=some o→(look k M'=some o)∨(look k M'=none∧look k X=some o):=fun k o h=>by
  rw [look_app_] at h
  cases hm:look k M' with
  | some x=>rw [hm] at h;exact .inl h
  | none=>rw [hm] at h;exact .inr ⟨rfl,h⟩
 have hold:∀ k o x,look k X=some o→G.fp k x→x < w.heap.size:=fun k o x h1 h2=>hO.my k o x (hXl k o h1) h2
 have hnew:∀ k o x,look k M'=some o→G'.fp k x→w.heap.size≤x∨fpM G M x:=q5
 refine ⟨v,G'',he,q1.mono_ hf,q2,fun p u hp=>?_,⟨q4.fw,fun k o hk=>?_,fun k o x hk hx=>?_,fun k o k' o' x hk hk' hx hx'=>?_,fun k o x p u hk hx hp=>?_⟩,fun k o x hk hx=>?_,q6,q7,q8,q9.mono hle1 q8⟩
 ·rcases q3 p u hp with g|g|g
  ·exact .inl g
  ·exact .inr (.inl g)
  ·exact .inr (.inr (hf _ g))
 ·rcases hlk k o hk with g|⟨g1,g2⟩
  ·obtain ⟨a1,a2,a3⟩:=q4.ob k o g
   exact ⟨a1,a2,a3.keep hle1 a1 a2 (hfM k o g) fun _ _=>rfl⟩
  ·obtain ⟨a1,a2,a3⟩:=hO.ob k o (hXl k o g2)
   exact ⟨jr a1 q7,AO.bd_mono q7 a2,a3.keep hle0 a1 a2 (hfX k g1) fun x hx=>q1.block x (hold k o x g2 hx) (hnX k o x g2 hx)⟩
 ·rcases hlk k o hk with g|⟨g1,g2⟩
  ·rw [hfM k o g] at hx;exact q4.my k o x g hx
  ·rw [hfX k g1] at hx;exact jr (hold k o x g2 hx) q1.size
 ·rcases hlk k o hk with g|⟨g1,g2⟩<;>rcases hlk k' o' hk' with g'|⟨g1',g2'⟩
  ·rw [hfM k o g] at hx;rw [hfM k' o' g'] at hx';exact q4.dj k o k' o' x g g' hx hx'
  ·rw [hfM k o g] at hx;rw [hfX k' g1'] at hx'
   rcases hnew k o x g hx with z|z
   ·have:=hold k' o' x g2' hx';omega
   ·exact absurd z (hnX k' o' x g2' hx')
  ·rw [hfM k' o' g'] at hx';rw [hfX k g1] at hx
   rcases hnew k' o' x g' hx' with z|z
   ·have:=hold k o x g2 hx;omega
   ·exact absurd z (hnX k o x g2 hx)
  ·rw [hfX k g1] at hx;rw [hfX k' g1'] at hx'
   exact hO.dj k o k' o' x (hXl k o g2) (hXl k' o' g2') hx hx'
 ·rcases hlk k o hk with g|⟨g1,g2⟩
  ·rw [hfM k o g] at hx;exact q4.dF k o x p u g hx hp
  ·rw [hfX k g1] at hx
   rcases q3 p u hp with z|z|z
   ·exact hO.dF k o x p u (hXl k o g2) hx z
   ·have:=hold k o x g2 hx;omega
   ·exact fun e=>hnX k o x g2 hx (e ▸ z)
 ·rcases hlk k o hk with g|⟨g1,g2⟩
  ·rw [hfM k o g] at hx
   rcases hnew k o x g hx with z|z
   ·exact .inl z
   ·exact .inr (hf _ z)
  ·rw [hfX k g1] at hx
   exact .inr ⟨k,o,hXl k o g2,hx⟩
theorem look_two {k:Nat} {o a b:AO} (h:look k [(1,a),(2,b)]=some o):k=1∨k=2:=by
 by_cases e:k=1
 ·exact .inl e
 ·by_cases e2:k=2
  ·exact .inr e2
  ·rw [look_set_other e,look_set_other e2]at h;cases h
theorem Cto.fr2 {o o' a b:AO} (h:Cto B gl P f args [(0,o)] nk res [(0,o')] nk'):Cto B gl P f args [(0,o),(1,a),(2,b)] nk res [(0,o'),(1,a),(2,b)] nk' :=
 Cto.frame (X:=[(1,a),(2,b)]) h fun k ob hk=>by
  rcases look_two hk with rfl|rfl<;>exact⟨rfl,rfl⟩
theorem Ctp.frame {pv:Value} (h:Ctp B gl P f args M nk pv):Ctp B gl P f args (M++X) nk pv:=by
 intro w G vs hB hlo hO hl hR
 obtain⟨hO1,hM⟩:=hO.fr
 have hf:∀ x,fpM G M x→fpM G (M++X) x:=fun x⟨k,o,h1,h2⟩=>⟨k,o,hM k o h1,h2⟩
 exact (h w G vs hB (fun x hx=>hlo x (hf x hx)) hO1 hl hR).mono fun e w1⟨g1,g2,g3⟩=>⟨g1,g2.mono_ hf,g3⟩
end
end
end Go.Proofs.YthohlofpphjofaaGreatDoor
