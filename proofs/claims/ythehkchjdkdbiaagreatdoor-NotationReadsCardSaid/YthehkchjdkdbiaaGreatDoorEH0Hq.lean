/- The reference's small functions over trees: Right, Longest, Rest. -/
import Derived.Test.YthehkchjdkdbiaaGreatDoorGdHq
import Derived.Test.YthehkchjdkdbiaaGreatDoorHs1Hq
import Derived.Test.YthehkchjdkdbiaaGreatDoorHs2Hq
import Derived.Test.YthehkchjdkdbiaaGreatDoorHs3Hq
import Derived.Test.YthehkchjdkdbiaaGreatDoorHs4Hq
import Derived.Test.YthehkchjdkdbiaaGreatDoorMk1Hq
import Derived.Test.YthehkchjdkdbiaaGreatDoorMk2Hq
import Derived.Test.YthehkchjdkdbiaaGreatDoorMk4Hq
import Derived.Test.YthehkchjdkdbiaaGreatDoorRInsHq
set_option maxHeartbeats 8000000
set_option maxRecDepth 100000
set_option linter.unusedVariables false
set_option linter.unusedSimpArgs false
namespace Go.Proofs.YthehkchjdkdbiaaGreatDoor
section
open Go.RowKit
section
variable {P:Program} {C:Cx} {σ:St} {o:Oper} {d:Tmp} {ops:Array Oper} {rest:List Oper} {Q:Exit→St→Prop} {mem:List Bool} {Mc:List (Nat×AO)} {nk0 k:Nat}
theorem put_row {T n i j:Nat} {rows:List (List AV)} {r l:List AV} (hr:rows[i]?=some r) (hj:j+l.length≤r.length) (hp:l.all AV.pu0=true):(AO.row T n rows).put i j l=some (.row T n (rows.set i (putL j l r))):=by
 simp only [AO.put,hr]
 rw [if_pos ⟨hj,hp⟩]
end
end
section
open Go.RowKit
def Gh.fpk(G:Gh)(k:Nat)(φ:Nat→Prop):Gh:=⟨G.F,G.b,G.n,G.h,fun q=>if q=k then φ else G.fp q⟩
theorem fpk_le (G:Gh)(k:Nat)(φ:Nat→Prop)(nk:Nat):G.le (G.fpk k φ) nk:=⟨fun _ _ h=>h,fun _ _=>rfl,fun _ _=>rfl,fun _ _=>rfl⟩
theorem fpk_same {G:Gh} {k:Nat} {φ:Nat→Prop}:(G.fpk k φ).fp k=φ:=if_pos rfl
theorem fpk_other {G:Gh} {k q:Nat} {φ:Nat→Prop} (h:q≠k):(G.fpk k φ).fp q=G.fp q:=if_neg h
section
variable {B:World→View→Prop} {gl:Nat} {P:Program} {C:Cx} {σ σ':St} {G G':Gh} {a:Act} {w w':World} {o:Oper} {d:Tmp} {ops:Array Oper} {rest:List Oper} {Q:Exit→St→Prop}
theorem Ok.refp (ok:Ok C σ G a w) {k:Nat} {ob ob':AO} {φ:Nat→Prop} (hk:look k σ.M=some ob) (hob:ObAt (G.fpk k φ) w k ob') (hbd:ob'.bd σ.nk)
  (hφ:∀ x,φ x→C.may x∧x<w.heap.size∧(∀ i o,i≠k→look i σ.M=some o→¬ G.fp i x)∧∀ p u,G.F p=some u→p.block≠x):Ok C (σ.upd k ob') (G.fpk k φ) a w:=by
 have hl:∀ k' o,look k' (σ.upd k ob').M=some o→(k'=k∧o=ob')∨(k'≠k∧look k' σ.M=some o):=fun k' o hx=>by
  by_cases e:k'=k
  ·subst e
   rw [show look k' (σ.upd k' ob').M=some ob' from look_set_same] at hx
   cases hx
   exact .inl ⟨rfl,rfl⟩
  ·rw [show look k' (σ.upd k ob').M=look k' σ.M from look_set_other e] at hx
   exact .inr ⟨e,hx⟩
 refine ⟨ok.sz,ok.df,fun i av h=>⟨(ok.tm i av h).1,(ok.tm i av h).2.1,(ok.tm i av h).2.2.mono (fpk_le G k φ σ.nk) (ok.tm i av h).2.1⟩,ok.bel,ok.fw,ok.f0,ok.f1,fun i o h=>?_,fun i o x h1 h2=>?_,fun i o i' o' x h1 h2 h3 h4=>?_,fun i o x p u h1 h2 h3=>?_⟩
 ·rcases hl i o h with⟨rfl,rfl⟩|⟨e,y⟩
  ·exact ⟨(ok.ob i _ hk).1,hbd,hob⟩
  ·obtain ⟨a1,a2,a3⟩:=ok.ob i o y
   exact ⟨a1,a2,a3.keep (fpk_le G k φ σ.nk) a1 a2 (fpk_other e) fun _ _=>rfl⟩
 ·rcases hl i o h1 with⟨rfl,rfl⟩|⟨e,y⟩
  ·rw [fpk_same] at h2;exact ⟨(hφ x h2).1,(hφ x h2).2.1⟩
  ·rw [fpk_other e] at h2;exact ok.my i o x y h2
 ·rcases hl i o h1 with⟨rfl,rfl⟩|⟨e,y⟩
  ·rcases hl i' o' h2 with⟨rfl,rfl⟩|⟨e',y'⟩
   ·rfl
   ·rw [fpk_same] at h3
    rw [fpk_other e'] at h4
    exact absurd h4 ((hφ x h3).2.2.1 i' o' e' y')
  ·rcases hl i' o' h2 with⟨rfl,rfl⟩|⟨e',y'⟩
   ·rw [fpk_same] at h4
    rw [fpk_other e] at h3
    exact absurd h3 ((hφ x h4).2.2.1 i o e y)
   ·rw [fpk_other e] at h3
    rw [fpk_other e'] at h4
    exact ok.dj i o i' o' x y y' h3 h4
 ·rcases hl i o h1 with⟨rfl,rfl⟩|⟨e,y⟩
  ·rw [fpk_same] at h2;exact (hφ x h2).2.2.2 p u h3
  ·rw [fpk_other e] at h2;exact ok.dF i o x p u y h2 h3
theorem RowIs.open_ {F:View} {T n:Nat} {rows:List (List AV)} {v:Value} {φ:Nat→Prop} (h:RowIs w T n rows v φ (XO F w)) {i j:Nat} {r:List AV} {av:AV} (hr:rows[i]?=some r) (hj:r[j]?=some av) :
  ∃ u ψ,OW F w av u ψ∧(∀ x,ψ x→φ x)∧u.oneCell'=true∧∀ (X:Nat→Nat→(Nat→Prop)→AV→Value→Prop),(∀ χ,X i j χ av u)→(∀ q s χ y z,¬ (q=i∧s=j)→OW F w y z χ→X q s χ y z)→RowIs w T n rows v (fun x=>φ x∧¬ ψ x) X:=by
 obtain ⟨h1,vs,Φ,h2,h3,h4,h5,h6,h7,h8,h9⟩:=h
 have hi:i<rows.length:=(List.getElem?_eq_some_iff.1 hr).1
 have hv:vs[i]?=some vs[i]:=List.getElem?_eq_getElem (by omega)
 have e1:=h8 i r _ hr hv
 have hjl:j<vs[i].length:=by rw [e1];exact (List.getElem?_eq_some_iff.1 hj).1
 have hu:vs[i][j]?=some vs[i][j]:=List.getElem?_eq_getElem hjl
 refine ⟨vs[i][j],Φ i j,h9 i r _ j av _ hr hv hj hu,fun x hx=>(h6 i j x hx).1,h4 _ (List.getElem_mem _) _ (List.getElem_mem _),fun X hX hO=>?_⟩
 refine ⟨h1,vs,fun q s x=>¬ (q=i∧s=j)∧Φ q s x,h2,h3,h4,fun g hg=>⟨h5 g hg,fun hx=>(h6 i j g hx).2 hg⟩,fun q s x hx=>⟨⟨(h6 q s x hx.2).1,fun hy=>hx.1 ((h7 q s i j x hx.2 hy))⟩,(h6 q s x hx.2).2⟩,fun q s q' s' x hx hy=>h7 q s q' s' x hx.2 hy.2,h8,fun q r1 r2 s y z a1 a2 a3 a4=>?_⟩
 by_cases e:q=i∧s=j
 ·obtain ⟨rfl,rfl⟩:=e
  rw [hr] at a1;cases a1
  rw [hv] at a2;cases a2
  rw [hj] at a3;cases a3
  rw [hu] at a4;cases a4
  exact hX _
 ·have:(fun x=>¬ (q=i∧s=j)∧Φ q s x)=Φ q s:=by
   funext x
   exact propext ⟨fun hx=>hx.2,fun hx=>⟨e,hx⟩⟩
  show X q s (fun x=>¬ (q=i∧s=j)∧Φ q s x) y z
  rw [this]
  exact hO q s _ y z e (h9 q r1 r2 s y z a1 a2 a3 a4)
theorem Tr.open_ (k i j:Nat) {T n T' n' m:Nat} {rows rows':List (List AV)} {r:List AV} (hk:look k σ.M=some (.rwn T n rows)) (hr:rows[i]?=some r) (hj:r[j]?=some (.ow T' n' rows')) (hp:∀ q∈rows',∀ av∈q,av.own=false) (hm:σ.nk=m) :
  Tr C σ ((σ.new (.row T' n' rows')).upd k (.rwo T n rows i j (.sl m))):=fun G a w ok=>by
 subst hm
 obtain ⟨g1,_,g3,g4,g5⟩:=ok.ob k _ hk
 obtain ⟨u,ψ,hO,hψ,hone,hX⟩:=g5.open_ hr hj
 have hR:=hO.row
 have ok1:=ok.refp (φ:=fun x=>G.fp k x∧¬ ψ x) (ob':=.rwo T n rows i j (.sc u)) hk ⟨g3,g4,by
  rw [fpk_same]
  refine hX (XQ (G.fpk k _) w i j (.sc u)) (fun χ=>?_) fun q s χ y z hne hy=>?_
  ·unfold XQ
   rw [if_pos ⟨rfl,rfl⟩]
   exact .pu _ _ (.sc u)
  ·unfold XQ
   rw [if_neg hne]
   exact hy⟩ (.sc u) fun x hx=>⟨(ok.my k _ x hk hx.1).1,(ok.my k _ x hk hx.1).2,fun q oq hq h1 h2=>hq (ok.dj q oq k _ x h1 hk h2 hx.1),fun p v=>ok.dF k _ x p v hk hx.1⟩
 have ok2:=ok1.newObj (S:=fun _=>False) (b:=u.ownBlock.getD 0) (n:=n') (h:=u) (φ:=ψ) (ob:=.row T' n' rows') (Kept.refl _ w) (fun _ h=>h.elim) (fun _ _ _ _ _ h=>h) (fun _ _ _ h=>h)
  ⟨with_n,(fun g hg=>by rw [with_h] at hg;rw [with_b,hg];rfl),by
   rw [with_h,with_f]
   exact hR.keep (fun _ _=>rfl) fun q rr s av χ z a1 a2 _ x=>OW.p x (hp rr (List.mem_of_getElem? a1) av (List.mem_of_getElem? a2))⟩ trivial
  (fun x hx=>⟨(ok.my k _ x hk (hψ x hx)).1,(ok.my k _ x hk (hψ x hx)).2,fun q oq h1 h2=>by
   by_cases e:q=k
   ·subst e
    rw [fpk_same] at h2
    exact h2.2 hx
   ·rw [fpk_other e] at h2
    rw [show look q (σ.upd k _).M=look q σ.M from look_set_other e] at h1
    exact e (ok.dj q oq k _ x h1 hk h2 (hψ x hx)),fun p v h1=>ok.dF k _ x p v hk (hψ x hx) h1⟩)
 have hkn:k≠(σ.upd k (.rwo T n rows i j (.sc u))).nk:=Nat.ne_of_lt g1
 have hk2:look k ((σ.upd k (.rwo T n rows i j (.sc u))).new (.row T' n' rows')).M=some (.rwo T n rows i j (.sc u)):=(look_set_other hkn).trans look_set_same
 obtain ⟨b1,b2,b3,b4,b5⟩:=ok2.ob k _ hk2
 have ok3:=ok2.reob (ob':=.rwo T n rows i j (.sl σ.nk)) hk2 ⟨b1,.sl _ (Nat.lt_succ_self _),b3,b4,b5.keep (fun _ _=>rfl) fun q rr s av χ z _ _ _ x=>by
  unfold XQ at x ⊢
  by_cases e:q=i∧s=j
  ·rw [if_pos e] at x ⊢
   rw [x.sc_eq]
   exact with_sl hone
  ·rw [if_neg e] at x ⊢
   exact x⟩
 have hl:∀ q,look q ((σ.new (.row T' n' rows')).upd k (.rwo T n rows i j (.sl σ.nk))).M=look q (((σ.upd k (.rwo T n rows i j (.sc u))).new (.row T' n' rows')).upd k (.rwo T n rows i j (.sl σ.nk))).M:=fun q=>by
  by_cases e:q=k
  ·subst e;exact look_set_same.trans look_set_same.symm
  ·refine (look_set_other e).trans (Eq.trans ?_ (look_set_other e).symm)
   by_cases e2:q=σ.nk
   ·subst e2;exact look_set_same.trans look_set_same.symm
   ·exact (look_set_other e2).trans ((look_set_other e2).trans (look_set_other e)).symm
 exact ⟨_,ok3.sz,ok3.df,ok3.tm,ok3.bel,ok3.fw,ok3.f0,ok3.f1,fun q x hx=>ok3.ob q x (by rw [← hl];exact hx),fun q x y hx=>ok3.my q x y (by rw [← hl];exact hx),fun q x q' x' y hx hx'=>ok3.dj q x q' x' y (by rw [← hl];exact hx) (by rw [← hl];exact hx'),fun q x y p u hx=>ok3.dF q x y p u (by rw [← hl];exact hx)⟩
theorem Tr.close_ (k:Nat) {T n T' n' m i j:Nat} {rows rows' rows2:List (List AV)} {r:List AV} (hk:look k σ.M=some (.rwo T n rows i j (.sl m))) (hm:look m σ.M=some (.row T' n' rows')) (hkm:Nat.beq k m=false) (hr:rows[i]?=some r) (hj:j<r.length) (he:rows.set i (r.set j (.ow T' n' rows'))=rows2) :
  Tr C σ ((σ.drop m).upd k (.rwn T n rows2)):=fun G a w ok=>by
 subst he
 have hne:k≠m:=fun e=>by rw [e,Nat.beq_refl] at hkm;cases hkm
 obtain ⟨g1,_,g3,g4,g5⟩:=ok.ob k _ hk
 obtain ⟨m1,_,m3,m4,m5⟩:=ok.ob m _ hm
 have okd:=ok.drop_ m
 have hkd:look k (σ.drop m).M=some (.rwo T n rows i j (.sl m)):=by
  show look k (rem m σ.M)=_
  rw [look_rem,if_neg hne];exact hk
 have hIn:OW G.F w (.ow T' n' rows') (G.h m) (G.fp m):=(m5.keep (X':=XO G.F w) (fun _ _=>rfl) fun q rr s av χ z _ _ _ x=>.pu _ _ _ x).ow
 have hi:i<rows.length:=(List.getElem?_eq_some_iff.1 hr).1
 have hdj:∀ x,G.fp k x→G.fp m x→False:=fun x h1 h2=>hne (ok.dj k _ m _ x hk hm h1 h2)
 refine ⟨G.fpk k (fun x=>G.fp k x∨G.fp m x),okd.refp hkd ⟨g3,g4,?_⟩ trivial fun x hx=>?_⟩
 ·rw [fpk_same]
  obtain ⟨h1,vs,Φ,h2,h3,h4,h5,h6,h7,h8,h9⟩:=g5
  have key:∀ q s,(if q=i∧s=j then (fun (_:Unit)=>G.fp m) else (fun _=>Φ q s)) ()=fun x=>(q=i∧s=j∧G.fp m x)∨(¬ (q=i∧s=j)∧Φ q s x):=fun q s=>by
   by_cases e:q=i∧s=j
   ·rw [if_pos e]
    funext x
    exact propext ⟨fun h=>.inl ⟨e.1,e.2,h⟩,fun h=>h.elim (fun y=>y.2.2) fun y=>absurd e y.1⟩
   ·rw [if_neg e]
    funext x
    exact propext ⟨fun h=>.inr ⟨e,h⟩,fun h=>h.elim (fun y=>absurd ⟨y.1,y.2.1⟩ e) fun y=>y.2⟩
  refine ⟨fun q hq=>?_,vs,fun q s x=>(q=i∧s=j∧G.fp m x)∨(¬ (q=i∧s=j)∧Φ q s x),h2,by simpa using h3,h4,fun g hg=>.inl (h5 g hg),fun q s x hx=>?_,fun q s q' s' x hx hy=>?_,fun q r1 r2 a1 a2=>?_,fun q r1 r2 s y z a1 a2 a3 a4=>?_⟩
  ·rcases List.mem_or_eq_of_mem_set hq with hq|rfl
   ·exact h1 q hq
   ·rw [List.length_set];exact h1 r (List.mem_of_getElem? hr)
  ·rcases hx with⟨_,_,hx⟩|⟨_,hx⟩
   ·exact ⟨.inr hx,fun e=>hdj x (h5 x e) hx⟩
   ·exact ⟨.inl (h6 q s x hx).1,(h6 q s x hx).2⟩
  ·rcases hx with⟨e1,e2,hx⟩|⟨_,hx⟩
   ·rcases hy with⟨e3,e4,hy⟩|⟨_,hy⟩
    ·exact ⟨e1.trans e3.symm,e2.trans e4.symm⟩
    ·exact (hdj x (h6 _ _ x hy).1 hx).elim
   ·rcases hy with⟨e3,e4,hy⟩|⟨_,hy⟩
    ·exact (hdj x (h6 _ _ x hx).1 hy).elim
    ·exact h7 q s q' s' x hx hy
  ·by_cases e:i=q
   ·subst e
    rw [List.getElem?_set_self hi] at a1
    cases a1
    rw [List.length_set];exact h8 i r r2 hr a2
   ·rw [List.getElem?_set_ne e] at a1
    exact h8 q r1 r2 a1 a2
  ·show OW G.F w y z (fun x=>(q=i∧s=j∧G.fp m x)∨(¬ (q=i∧s=j)∧Φ q s x))
   rw [← key q s]
   by_cases e:i=q
   ·subst e
    rw [List.getElem?_set_self hi] at a1
    cases a1
    by_cases e2:j=s
    ·subst e2
     rw [List.getElem?_set_self hj] at a3
     cases a3
     rw [if_pos ⟨rfl,rfl⟩]
     have:=h9 i r r2 j r[j] z hr a2 (List.getElem?_eq_getElem hj) a4
     unfold XQ at this
     rw [if_pos ⟨rfl,rfl⟩] at this
     rw [this.sl_of.1]
     exact hIn
    ·rw [List.getElem?_set_ne e2] at a3
     rw [if_neg (fun h=>e2 h.2.symm)]
     have:=h9 i r r2 s y z hr a2 a3 a4
     unfold XQ at this
     rw [if_neg (fun h=>e2 h.2.symm)] at this
     exact this
   ·rw [List.getElem?_set_ne e] at a1
    rw [if_neg (fun h=>e h.1.symm)]
    have:=h9 q r1 r2 s y z a1 a2 a3 a4
    unfold XQ at this
    rw [if_neg (fun h=>e h.1.symm)] at this
    exact this
 ·have old:∀ q oq,look q σ.M=some oq→(q=k∨q=m)→G.fp q x→C.may x∧x<w.heap.size∧(∀ i o,i≠k→look i (σ.drop m).M=some o→¬ G.fp i x)∧∀ p u,G.F p=some u→p.block≠x:=fun q oq hq hkq hx=>by
   refine ⟨(ok.my q oq x hq hx).1,(ok.my q oq x hq hx).2,fun i' o' hi' h1 h2=>?_,fun p u=>ok.dF q oq x p u hq hx⟩
   obtain ⟨d1,d2⟩:=drop_look h1
   have:=ok.dj i' o' q oq x d2 hq h2 hx
   rcases hkq with e|e
   ·exact hi' (this.trans e)
   ·exact d1 (this.trans e)
  rcases hx with hx|hx
  ·exact old k _ hk (.inl rfl) hx
  ·exact old m _ hm (.inr rfl) hx
def stQV (P:Program)(σ:St):Op→Option (Nat×TypeId×Nat×List (List AV)×Nat×Nat×AV)
 | .store T x y =>
  match σ.ev x,σ.ev y with
  | some (.pt k i j),some av =>
   match sizeB P T,look k σ.M with
   | some 1,some (.rwn T' n rows)=>bif av.oneB then some (k,T',n,rows,i,j,av)else none
   | _,_=>none
  | _,_=>none
 | _=>none
def stRV (P:Program)(σ:St):Op→Option (Nat×TypeId×Nat×List (List AV)×Nat×Nat×Nat×Nat×AV)
 | .store T x y =>
  match σ.ev x,σ.ev y with
  | some (.pt k i j),some av =>
   match sizeB P T,look k σ.M with
   | some 1,some (.rwo T' n rows hi hj _)=>bif av.oneB then some (k,T',n,rows,i,j,hi,hj,av)else none
   | _,_=>none
  | _,_=>none
 | _=>none
theorem WV.ldQ {T T' n:Nat} {x:Operand} {k i j:Nat} {rows:List (List AV)} {r:List AV} {av:AV} (ho:o.op=.load T x) (hT:aggB P T=some false) (hx:σ.ev x=some (.pt k i j)) (hk:look k σ.M=some (.rwo T' n rows i j av)) (hr:rows[i]?=some r) (hj:j<r.length):WV P C o σ av :=
 WV.val (fun G a w ok=>(ok.ob k _ hk).2.1) fun G a w ok=>by
  obtain ⟨p,e,h1,h2,h3⟩:=(ok.evr hx).2.pt_of
  obtain rfl:=addr_eq h1 h2 h3
  obtain ⟨hn,hg,hR⟩:=(ok.ob k _ hk).2.2
  obtain ⟨u,hu,ψ,hX⟩:=hR.cell_at hg hr (List.getElem?_eq_getElem hj)
  unfold XQ at hX
  rw [if_pos ⟨rfl,rfl⟩] at hX
  rw [← hn] at hu
  exact ⟨u,by unfold execOp;simp [ho,e,run_load1 hT hu],hX⟩
def ldqV (P:Program)(σ:St):Op→Option (List (List AV)×Nat×Nat×Nat×Nat×AV)
 | .load T x =>
  match aggB P T,σ.ev x with
  | some false,some (.pt k i j) =>
   match look k σ.M with
   | some (.rwo _ _ rows hi hj av)=>some (rows,i,j,hi,hj,av)
   | _=>none
  | _,_=>none
 | _=>none
theorem ldqV_O {rows:List (List AV)} {i j hi hj:Nat} {r:List AV} {av:AV} (h:ldqV P σ o.op=some (rows,i,j,hi,hj,av))(e1:i=hi)(e2:j=hj)(hr:rows[i]?=some r)(hjr:j<r.length):WV P C o σ av:=by
 subst e1 e2
 unfold ldqV at h
 split at h
 ·rename_i T x ho
  split at h
  ·rename_i k i' j' hT hx
   split at h
   ·rename_i T' n rows' hi' hj' av' hk
    cases h
    exact WV.ldQ ho hT hx hk hr hjr
   ·cases h
  ·cases h
 ·cases h
theorem WL.ldQ {rows:List (List AV)} {i j hi hj:Nat} {r:List AV} {av:AV} (hd:dstB C.N o=some d)(h:ldqV P σ o.op=some (rows,i,j,hi,hj,av))(e1:i=hi)(e2:j=hj)(hr:rows[i]?=some r)(hjr:j<r.length)(k:WL P C ops rest (σ.put d av) Q):WL P C ops (o::rest) σ Q:=WL.vl hd (ldqV_O h e1 e2 hr hjr) k
def Lent (C:Cx)(σ:St)(av av':AV):Prop:=∀ G a w,Ok C σ G a w→∀ v,R G av v→RP (fun q=>w.cell? q) av' v
inductive Lents (C:Cx) (σ:St):List AV→List AV→Prop
 | nil:Lents C σ [] []
 | cons {x y:AV} {l m:List AV}:Lent C σ x y→Lents C σ l m→Lents C σ (x::l) (y::m)
theorem Lents.at_ {l m:List AV} (h:Lents C σ l m):l.length=m.length∧∀ (i:Nat)y,m[i]?=some y→∃ x,l[i]?=some x∧Lent C σ x y:=by
 induction h with
 | nil=>exact⟨rfl,fun i y hy=>by simp at hy⟩
 | cons h1 _ ih =>
  refine⟨by simp [ih.1],fun i y hy=>?_⟩
  cases i with
  | zero=>cases hy;exact⟨_,rfl,h1⟩
  | succ i=>exact ih.2 i y (by simpa using hy)
theorem Lent.pu {av:AV} (hp:av.pu2=true):Lent C σ av av:=fun G a w ok v h=>RP.mono (fun p u x=>ok.fw p u x) ((pu2_bd hp 0).rp h)
theorem Lent.row {k T n:Nat} {rows:List (List AV)} (hk:look k σ.M=some (.row T n rows)):Lent C σ (.sl k) (.ls n rows):=fun G a w ok v h=>by
 rw [h.sl_of.1]
 obtain ⟨_,_,hob⟩:=ok.ob k _ hk
 have:=RowIs.fix (F':=fun q=>w.cell? q) id hob.2.2 (fun _ _=>rfl) fun i r j av u ψ _ _ _ x=>RP.mono (fun p u x=>ok.fw p u x) x
 simpa using this
theorem RowIs.fixQ {T n:Nat} {rows rows':List (List AV)} {v:Value} {φ:Nat→Prop} {X:Nat→Nat→(Nat→Prop)→AV→Value→Prop} {F':View} (h:RowIs w T n rows v φ X)(hl:rows'.length=rows.length)(hln:∀ r∈rows',r.length=n)
  (hX:∀ (i:Nat) r (j:Nat) av u ψ,rows'[i]?=some r→r[j]?=some av→(∀ r0 av0,rows[i]?=some r0→r0[j]?=some av0→X i j ψ av0 u)→RP F' av u)(hF:∀ p,φ p.block→F' p=w.cell? p):RP F' (.ls n rows') v:=by
 have hrl:=h.1
 have h':RowIs w T n rows' v φ (fun i j ψ av u=>∀ r0 av0,rows[i]?=some r0→r0[j]?=some av0→X i j ψ av0 u):=by
  obtain⟨h1,vs,Φ,h2,h3,h4,h5,h6,h7,h8,h9⟩:=h
  refine⟨hln,vs,Φ,h2,by rw [hl];exact h3,h4,h5,h6,h7,fun i r r' a1 a2=>?_,fun i r r' j av u a1 a2 a3 a4 r0 av0 b1 b2=>h9 i r0 r' j av0 u b1 a2 b2 a4⟩
  have hi:i<rows.length:=by rw [← hl];exact (List.getElem?_eq_some_iff.1 a1).1
  have e0:=h8 i rows[i] r' (List.getElem?_eq_getElem hi) a2
  rw [e0,hln r (List.mem_of_getElem? a1)]
  exact hrl _ (List.getElem_mem _)
 have:=RowIs.fix (F':=F') id h' hF fun i r j av u ψ hr hav _ x=>hX i r j av u ψ hr hav x
 simpa using this
theorem Lent.rwo (dp:Nat) {k T n i j:Nat} {rows rows':List (List AV)} {r:List AV} {x x':AV} (hk:look k σ.M=some (.rwo T n rows i j x)) (hx:Lent C σ x x') (hs:∀ r∈rows,∀ av∈r,av.shal dp=true) (hr:rows[i]?=some r) (hj:j<r.length)
  (he:(rows.map fun r=>r.map (AV.fz dp)).set i ((r.map (AV.fz dp)).set j x')=rows'):Lent C σ (.sl k) (.ls n rows'):=fun G a w ok v h=>by
 rw [h.sl_of.1,← he]
 obtain ⟨_,_,hob⟩:=ok.ob k _ hk
 have hi:i<rows.length:=(List.getElem?_eq_some_iff.1 hr).1
 have hrl:=hob.2.2.1
 refine RowIs.fixQ hob.2.2 (by simp) (fun q hq=>?_) (fun q r1 s av u ψ a1 a2 a3=>?_) (fun _ _=>rfl)
 ·rcases List.mem_or_eq_of_mem_set hq with hq|rfl
  ·obtain ⟨r0,h0,rfl⟩:=List.mem_map.1 hq
   rw [List.length_map];exact hrl r0 h0
  ·rw [List.length_set,List.length_map];exact hrl r (List.mem_of_getElem? hr)
 ·by_cases e:i=q
  ·subst e
   rw [List.getElem?_set_self (by simpa using hi)] at a1
   cases a1
   by_cases e2:j=s
   ·subst e2
    rw [List.getElem?_set_self (by simpa using hj)] at a2
    cases a2
    have:=a3 r r[j] hr (List.getElem?_eq_getElem hj)
    unfold XQ at this
    rw [if_pos ⟨rfl,rfl⟩] at this
    exact hx G a w ok u this
   ·rw [List.getElem?_set_ne e2,List.getElem?_map] at a2
    cases h0:r[s]? with
    | none=>simp [h0] at a2
    | some av0 =>
     simp only [h0,Option.map_some,Option.some.injEq] at a2
     subst a2
     have:=a3 r av0 hr h0
     unfold XQ at this
     rw [if_neg (fun h=>e2 h.2.symm)] at this
     exact OW.fix (fun p u x=>ok.fw p u x) dp this (fun _ _=>rfl) (hs r (List.mem_of_getElem? hr) av0 (List.mem_of_getElem? h0))
  ·rw [List.getElem?_set_ne e,List.getElem?_map] at a1
   cases h0:rows[q]? with
   | none=>simp [h0] at a1
   | some r0 =>
    simp only [h0,Option.map_some,Option.some.injEq] at a1
    subst a1
    rw [List.getElem?_map] at a2
    cases h1:r0[s]? with
    | none=>simp [h1] at a2
    | some av0 =>
     simp only [h1,Option.map_some,Option.some.injEq] at a2
     subst a2
     have:=a3 r0 av0 h0 h1
     unfold XQ at this
     rw [if_neg (fun h=>e h.1.symm)] at this
     exact OW.fix (fun p u x=>ok.fw p u x) dp this (fun _ _=>rfl) (hs r0 (List.mem_of_getElem? h0) av0 (List.mem_of_getElem? h1))
theorem Lent.ag {l m:List AV} (h:Lents C σ l m):Lent C σ (.ag l) (.ag m):=fun G a w ok v hv=>by
 obtain ⟨cs,rfl,h1,h2⟩:=hv.ag_of
 obtain ⟨q1,q2⟩:=h.at_
 refine .ag _ cs zqo fun i av u x y=>?_
 obtain ⟨b,hb,hL⟩:=q2 i av x
 exact hL G a w ok u (h2 i b u hb y)
theorem WV.lendX (hB:Holds B gl C) {f:FuncId} {xs:Array Operand} {ts:Array TypeId} {args args':List AV} {res:Value} (ho:o.op=.call { callee:=.value (.func f),args:=xs,argTypes:=ts }) (hc:∀ vs w,(callFunc f vs).run P w=.ok (.enter f vs) w)
  (hx:σ.evs xs.toList=some args) (hl:Lents C σ args args') (hst:∀ w F F',View.le F F'→B w F→B w F') (h:Ctg B P f args' (.sc res)):WV P C o σ (.sc res):=by
 intro G a w ok N Q' hN
 obtain ⟨e1,e2⟩:=ok.evl hx
 obtain ⟨q1,q2⟩:=hl.at_
 have hF:G.F.le fun q=>w.cell? q:=fun p u x=>ok.fw p u x
 have hcalls:=h w (fun q=>w.cell? q) (xs.toList.map a.eval) (hst w _ _ hF (hB.1 w G.F ok.bel ok.f0)) (fun _ _ x=>x) ⟨by rw [e1,q1],fun i av u p q=>by
  obtain ⟨b,hb,hL⟩:=q2 i av p
  exact hL G a w ok u (e2 i b u hb q)⟩
 unfold Oper.wp execOp
 have ev:a.eval (.func f)=.func (.func f) #[] #[]:=rfl
 have e3:(#[]++xs.map a.eval++#[]:Array Value)=(xs.toList.map a.eval).toArray:=by apply Array.ext';simp
 simp only [ho,resolve,ev,Deferred.ofValue,invoke,Sem.run_bind,Sem.run_pure,Result.andThen_ok,hc,Oper.upon,e3]
 refine hcalls.mono fun e w1 ⟨v,F',he,hb,h1,h2,h3,h4⟩=>?_
 subst he
 have hv:=h4.sc_eq
 subst hv
 exact hN _ { G with F:=G.F } w1 (fun σ'' a'' ok''=>ok''.called hb (fun _ _ x=>x) (fun p u x=>by rw [hb.cell (cell_block (ok.fw p u x))];exact ok.fw p u x) (fun _ _ x=>.inl x)) (.pu _ _ (.sc _)) (RP.bd (F:=G.F) (.sc _) _)
end
end
section
open Go.RowKit
section
variable {P:Program} {C:Cx} {σ:St} {G:Gh} {a:Act} {w:World} {o:Oper} {d:Tmp} {ops:Array Oper} {rest:List Oper} {Q:Exit→St→Prop}
theorem WO.buildO {T e n q:Nat} {z:Value} {parts:Array (Nat×Operand)} {x0:Operand} {av0 y0:AV} {j0:Nat} (ho:o.op=.buildSlice T 1 parts) (hT:P.underlying T=some (.slice e)) (hn:sizeB P e=some n) (hz:(P.info? e).bind (·.zero)=some z)
  (hp:parts.toList=number 0 [x0]) (hb:Nat.ble (1*n) 16777216=true) (hds:o.dst=some d) (hd:Nat.blt d C.N=true) (hx:σ.ev x0=some av0) (hcB:av0.cellB=true) (hcl:av0.cells.length=n) (hc1:av0.cells.all AV.oneB=true) (hcj:av0.cells[j0]?=some y0) (hc0:∀ s x,s≠j0→av0.cells[s]?=some x→x.pu0=true) (hq:σ.nk=q) :
  WO P C o σ ((σ.new (.rwo e n [av0.cells] 0 j0 y0)).put d (.sl q)):=by
 intro G a w ok N Q' hN
 obtain ⟨hbd,hr⟩:=ok.evr hx
 obtain ⟨c1,c2⟩:=cells_of hr hcB
 have hv:(a.eval x0).cells.size=n:=c1.trans hcl
 have hrun:=run_buildS (P:=P) (T:=T) (e:=e) (n:=n) (m:=1) (vs:=[a.eval x0]) (parts:=parts.map fun (i,x)=>(i,a.eval x)) hT hn hz (by
  have:=number_map a.eval 0 [x0]
  rw [← hp] at this
  simpa using this) rfl (fun v hv'=>by obtain rfl:=List.mem_singleton.1 hv';exact hv) (Nat.le_of_ble_eq_true hb) w
 have hfl:(([a.eval x0]).map fun v=>v.cells.toList).flatten=(a.eval x0).cells.toList:=by simp
 have hown:=own_built w e n 1 (([a.eval x0]).map fun v=>v.cells.toList).flatten.toArray (by unfold maxLen;omega) (by
  rw [hfl,Array.toArray_toList,hv];omega)
 have honeR:∀ r∈[(a.eval x0).cells.toList],∀ u∈r,u.oneCell'=true:=fun r hr' u hu=>by
  obtain rfl:=List.mem_singleton.1 hr'
  obtain ⟨j,hj,rfl⟩:=List.getElem_of_mem hu
  have hj2:j<av0.cells.length:=by rw [← c1];simpa using hj
  exact oneB_of (c2 j _ _ (List.getElem?_eq_getElem hj2) (by simp at hj;simp [hj])) (List.all_eq_true.1 hc1 _ (List.getElem_mem hj2))
 have hsl:(.slice (some ⟨w.heap.size,0,none⟩) 1 1:Value).ownBlock=some w.heap.size:=rfl
 have hy:Bd σ.nk y0:=cells_bd hbd j0 y0 hcj
 have ok':=ok.newObj (w':=w.alloc (.cells (([a.eval x0]).map fun v=>v.cells.toList).flatten.toArray e)) (S:=fun _=>False) (b:=w.heap.size) (n:=n) (h:=.slice (some ⟨w.heap.size,0,none⟩) 1 1) (φ:=fun x=>x=w.heap.size) (ob:=.rwo e n [av0.cells] 0 j0 y0)
  (Kept.below ((Below.refl _ _).alloc (Nat.le_refl _) _)) (fun _ h=>h.elim) (fun _ _ _ _ _ h=>h) (fun _ _ _ h=>h)
  ⟨with_n,(fun g hg=>by rw [with_h,hsl] at hg;rw [with_b];exact (Option.some.inj hg).symm),by
   rw [with_h,with_f]
   refine ⟨fun r hr'=>by obtain rfl:=List.mem_singleton.1 hr';exact hcl,[(a.eval x0).cells.toList],fun _ _ _=>False,?_,rfl,honeR,fun g hg=>by rw [hsl] at hg;exact (Option.some.inj hg).symm,
    fun _ _ _ h=>h.elim,fun _ _ _ _ _ h=>h.elim,fun i r r' h1 h2=>?_,fun i r r' j av u h1 h2 h3 h4=>?_⟩
   ·exact own_weaken (by simpa using hown) (Nat.zero_le _)
   ·cases i with
    | zero=>cases h1;cases h2;simpa using c1
    | succ i=>simp at h1
   ·cases i with
    | succ i=>simp at h1
    | zero =>
     cases h1;cases h2
     have hR:=c2 j av u h3 (by simpa using h4)
     unfold XQ
     by_cases e:j=j0
     ·subst e
      rw [if_pos ⟨rfl,rfl⟩]
      rw [hcj] at h3
      cases h3
      exact hR.mono (G.with_le σ.nk _ _ _ _) hy
     ·rw [if_neg (fun h=>e h.2)]
      exact .pu _ _ _ (show RP G.F av u from (pu0_bd (hc0 j av e h3) 0).rp hR)⟩ (hy.mono (Nat.le_succ _)) (fun x hx=>by
   obtain rfl:x=w.heap.size:=hx
   refine ⟨.inl ok.bel.size,by simp,fun k o h1 h2=>?_,fun p u h1 h2=>?_⟩
   ·have:=(ok.my k o _ h1 h2).2;omega
   ·have:=cell_block (ok.fw p u h1);omega)
 unfold Oper.wp execOp
 simp only [ho,Sem.run_bind,hrun,Result.andThen_ok,Sem.run_pure,Oper.upon]
 rw [hds]
 subst hq
 exact hN _ _ _ (ok'.set (d:=some d) (av:=.sl σ.nk) (v:=.slice (some ⟨w.heap.size,0,none⟩) 1 1) (with_sl rfl) (.sl _ (Nat.lt_succ_self _)) fun x hx=>by cases hx;exact of_blt hd)
structure BdD where
 e:TypeId
 n:Nat
 cells:List AV
def bdoV (P:Program) (σ:St):Op→Option BdD
 | .buildSlice T 1 ⟨[(0,x)]⟩ =>
  match P.underlying T,σ.ev x with
  | some (.slice e),some av =>
   match sizeB P e,(P.info? e).bind (·.zero) with
   | some n,some _=>bif av.cellB && Nat.beq av.cells.length n && av.cells.all AV.oneB && Nat.ble (1*n) 16777216 then some ⟨e,n,av.cells⟩ else none
   | _,_=>none
  | _,_=>none
 | _=>none
def pu0But (j:Nat):Nat→List AV→Bool
 | _,[]=>true
 | s,x::r=>(Nat.beq s j|| x.pu0) && pu0But j (s+1) r
theorem pu0But_at {j:Nat}:∀ {l:List AV} {s:Nat},pu0But j s l=true→∀ i x,s+i≠j→l[i]?=some x→x.pu0=true
 | [],s,_,i,x,_,h=>by simp at h
 | y::r,s,hp,i,x,hi,h=>by
  simp only [pu0But,Bool.and_eq_true,Bool.or_eq_true] at hp
  cases i with
  | zero =>
   cases h
   rcases hp.1 with e|e
   ·exact absurd (Nat.eq_of_beq_eq_true e) hi
   ·exact e
  | succ i=>exact pu0But_at hp.2 i x (by omega) (by simpa using h)
theorem WL.bdO {x:BdD} {t:List (Nat×AV)} {M:List (Nat×AO)} {nk:Nat} (j:Nat) {y:AV} (hd:dstB C.N o=some d) (h:bdoV P ⟨t,M,nk⟩ o.op=some x) (hj:x.cells[j]?=some y) (hp:pu0But j 0 x.cells=true)
  (k:WL P C ops rest ⟨(d,.sl nk)::t,(nk,.rwo x.e x.n [x.cells] 0 j y)::M,nk+1⟩ Q):WL P C ops (o::rest) ⟨t,M,nk⟩ Q:=by
 obtain ⟨hg,hds,hdb⟩:=dstB_of hd
 refine WL.op hg ?_ k
 unfold bdoV at h
 split at h
 ·rename_i T x0 ho
  split at h
  ·rename_i e av hT hx
   split at h
   ·rename_i n z hn hz
    cases hb:av.cellB && Nat.beq av.cells.length n && av.cells.all AV.oneB && Nat.ble (1*n) 16777216 with
    | false=>rw [hb] at h;cases h
    | true =>
     rw [hb] at h
     cases h
     simp only [Bool.and_eq_true] at hb
     obtain ⟨⟨⟨b1,b2⟩,b3⟩,b4⟩:=hb
     exact WO.buildO (σ:=⟨t,M,nk⟩) ho hT hn hz rfl b4 hds hdb hx b1 (Nat.eq_of_beq_eq_true b2) b3 hj (fun s x hs hx=>pu0But_at hp s x zqo hx) rfl
   ·cases h
  ·cases h
 ·cases h
structure ApmD where
 T:TypeId
 n:Nat
 k:Nat
 q:Nat
 a:List (List AV)
 b:List (List AV)
def apmV (P:Program) (σ:St):Op→Option ApmD
 | .call { callee:=.builtin .append,args:=⟨[x,y]⟩,argTypes:=⟨[T,T']⟩ } =>
  match P.underlying T,σ.ev x,σ.ev y with
  | some (.slice e),some (.sl k),some (.sl q) =>
   match P.info? e,look k σ.M,look q σ.M with
   | some i,some (.rwn e' n rows),some (.rwn _ n' rows2) =>
    match i.zero with
    | some z=>bif Nat.beq T T' && Nat.beq e e' && Nat.beq n n' && Nat.beq i.size n && Nat.beq z.cells.size n && Nat.blt 0 n && Nat.ble i.bytes 100000 && !Nat.beq k q then some ⟨e,n,k,q,rows,rows2⟩else none
    | _=>none
   | _,_,_=>none
  | _,_,_=>none
 | _=>none
theorem WL.apM {x:ApmD} {t:List (Nat×AV)} {M M1 M':List (Nat×AO)} {nk:Nat} (hd:dstB C.N o=some d) (h:apmV P ⟨t,M,nk⟩ o.op=some x) (hM:remS x.k M=some M1) (hM2:remS x.q M1=some M') (hl:x.a.length+x.b.length≤1000000000)
  (k:WL P C ops rest ⟨(d,.sl nk)::t,(nk,.rwn x.T x.n (x.a++x.b))::M',nk+1⟩ Q):WL P C ops (o::rest) ⟨t,M,nk⟩ Q:=by
 rw [remS_eq hM2,remS_eq hM] at k
 obtain ⟨hg,hds,hdb⟩:=dstB_of hd
 refine WL.op hg ?_ k
 unfold apmV at h
 split at h
 ·rename_i x0 y0 T T' ho
  split at h
  ·rename_i e k' q' hT hx hy
   split at h
   ·rename_i i e' n rows e2 n' rows2 hi hk hq
    split at h
    ·rename_i z hz
     cases hb:Nat.beq T T' && Nat.beq e e' && Nat.beq n n' && Nat.beq i.size n && Nat.beq z.cells.size n && Nat.blt 0 n && Nat.ble i.bytes 100000 && !Nat.beq k' q' with
     | false=>rw [hb] at h;cases h
     | true =>
      rw [hb] at h
      simp only [Bool.and_eq_true,Bool.not_eq_true'] at hb
      cases h
      obtain ⟨⟨⟨⟨⟨⟨⟨b1,b2⟩,b3⟩,b4⟩,b5⟩,b6⟩,b7⟩,b8⟩:=hb
      obtain rfl:=Nat.eq_of_beq_eq_true b1
      obtain rfl:=Nat.eq_of_beq_eq_true b2
      obtain rfl:=Nat.eq_of_beq_eq_true b3
      exact WO.appendM (σ:=⟨t,M,nk⟩) ho hT hi hz (Nat.eq_of_beq_eq_true b4) rfl (Nat.eq_of_beq_eq_true b5) b6 hds hdb hx hk hy hq b8 rfl hl b7 rfl
    ·cases h
   ·cases h
  ·cases h
 ·cases h
end
end
section
open Go.RowKit
attribute [local go_sem]mk_bs bs_size bs_toList bs_append bs_extract
attribute [local simp]run_cut run_cut_to run_cut_from run_add_bs
theorem pright_3 (n:Int)(w:World)(h:0≤n∧n≤3) :
  Calls Tryz.prog 343 #[.agg #[],.int .i64 n] w (Ret (.tuple #[.string (bs (rR 3 n)),.bool (okR 3 n)]) w):=by
 have h4:n=0∨n=1∨n=2∨n=3:=by omega
 clear h
 rcases h4 with rfl|rfl|rfl|rfl
 all_goals
  go_enter Tryz.func343,Tryz.ntmps343
  go_wp2
  go_ret2
  exact Ret.mk' rfl zqb
theorem pgrace_3 (n:Int)(w:World)(h:0≤n∧n≤4) :
  Calls Tryz.prog 337 #[.agg #[],.int .i64 n] w (Ret (.tuple #[.string (bs (rG 3 n)),.bool (okG 3 n)]) w):=by
 have h4:n=0∨n=1∨n=2∨n=3∨n=4:=by omega
 clear h
 rcases h4 with rfl|rfl|rfl|rfl|rfl
 all_goals
  go_enter Tryz.func337,Tryz.ntmps337
  go_wp2
  go_ret2
  exact Ret.mk' rfl zqb
theorem phold_3 (n L:Int)(w:World)(h:0≤n∧n≤15) :
  Calls Tryz.prog 339 #[.agg #[],.int .i64 n,.int .i64 L] w (Ret (.tuple #[.string (bs (pH 3 n L)),.bool (okH 3 n L)]) w):=by
 obtain⟨hn0,hn1⟩:=h
 by_cases h0:n=0
 ·subst h0
  go_enter Tryz.func339,Tryz.ntmps339
  go_wp2
  go_ret2
  exact Ret.mk' rfl zqb
 ·have hb:(n == 0)=false:=by simp;exact h0
  have e0:pH 3 n L=rH 3 n L:=if_neg h0
  have e1:okH 3 n L=!(rH 3 n L).isEmpty:=by unfold okH;rw [hb];rfl
  rw [e0,e1]
  have e2:rH 3 n L=[]:=rfl
  rw [e2]
  clear e0 e1 e2
  go_enter Tryz.func339,Tryz.ntmps339
  go_wp2
  go_ret2
  exact Ret.mk' rfl zqb
end
section
open Go.RowKit
def sysV (s:Int):Value:=if s=1 then .iface 170 (.agg #[])else if s=2 then .iface 174 (.agg #[])else if s=3 then .iface 176 (.agg #[])else if s=4 then .iface 178 (.agg #[])else .nilIface
theorem sys_cases {s:Int} (h:1≤s∧s≤4):s=1∨s=2∨s=3∨s=4:=by omega
def plV:AV→Option Value
 | .sc v=>some v
 | .ag l =>
  match scs l with
  | some xs=>some (.agg xs.toArray)
  | none=>none
 | _=>none
def plL:List AV→Option (List Value)
 | []=>some []
 | x::r =>
  match plV x,plL r with
  | some v,some l=>some (v::l)
  | _,_=>none
theorem plV_of {F:View} {av:AV} {u v:Value} (h:plV av=some v) (r:RP F av u):u=v:=by
 cases av with
 | sc x=>cases h;exact r.sc_eq
 | ag l =>
  cases hs:scs l with
  | none=>simp [plV,hs] at h
  | some xs =>
   simp [plV,hs] at h
   subst h
   obtain ⟨cs,rfl,h1,h2⟩:=(R.pu (G:=⟨F,fun _=>0,fun _=>0,fun _=>undef,fun _ _=>False⟩) _ _ r).ag_of
   have e:cs.toList=xs:=scs_of (G:=⟨F,fun _=>0,fun _=>0,fun _=>undef,fun _ _=>False⟩) hs (by simpa using h1) (fun i av u p q=>h2 i av u p (by simpa using q))
   subst e
   simp
 | _=>cases h
theorem plL_of {F:View}:∀ {l:List AV} {xs vs:List Value},plL l=some xs→vs.length=l.length→(∀ (i:Nat) av u,l[i]?=some av→vs[i]?=some u→RP F av u)→vs=xs
 | [],xs,vs,h,hl,_=>by cases h;exact List.eq_nil_of_length_eq_zero hl
 | x::r,xs,[],h,hl,_=>by cases hl
 | x::r,xs,v::vs,h,hl,hq=>by
  unfold plL at h
  split at h
  ·rename_i u l h1 h2
   cases h
   rw [plV_of h1 (hq 0 x v rfl rfl),plL_of (F:=F) (vs:=vs) h2 (by simpa using hl) fun i av u a b=>hq (i+1) av u (by simpa using a) (by simpa using b)]
  ·cases h
theorem Ctr.of_pl {P:Program} {f:FuncId} {args:List AV} {xs:List Value} {res:AV} {v:Value} (hs:plL args=some xs)(hv:∀ F,RP F res v)(h:∀ w,Calls P f xs.toArray w (Ret v w)):Ctr P f args res:=by
 intro w F vs hF hR
 have:=plL_of hs hR.1 hR.2
 subst this
 exact (h w).mono fun e w'⟨he,hb⟩=>⟨v,F,he,hb,fun _ _ h=>h,fun p u x=>by rw [hb.cell (cell_block (hF p u x))];exact hF p u x,fun _ _ h=>.inl h,hv F⟩
theorem rp_tu2 {F:View} {u v:Value}:RP F (.tu [.sc u,.sc v]) (.tuple #[u,v]):=.tu _ _ rfl fun i av x a b=>by
 match i with
 | 0=>cases a;cases b;exact .sc _
 | 1=>cases a;cases b;exact .sc _
 | i+2=>simp at a
theorem WV.sys {P:Program} {C:Cx} {o:Oper} {σ:St} {s:Int} (hs:1≤s∧s≤4) {x:Operand} {name:String} {xs:Array Operand} {ts:Array TypeId} {args:List AV} {res:AV} (fs:Int→FuncId) (ho:o.op=.call { callee:=.invoke x name,args:=xs,argTypes:=ts })
  (hr:σ.ev x=some (.sc (sysV s)))
  (h1:∀ vs w,(callMethod (sysV 1) name vs).run P w=.ok (.enter (fs 1) (#[.agg #[]]++vs)) w) (h2:∀ vs w,(callMethod (sysV 2) name vs).run P w=.ok (.enter (fs 2) (#[.agg #[]]++vs)) w)
  (h3:∀ vs w,(callMethod (sysV 3) name vs).run P w=.ok (.enter (fs 3) (#[.agg #[]]++vs)) w) (h4:∀ vs w,(callMethod (sysV 4) name vs).run P w=.ok (.enter (fs 4) (#[.agg #[]]++vs)) w)
  (hx:σ.evs xs.toList=some args) (hp:args.all AV.pu2=true) (h:Ctr P (fs s) (.ag []::args) res):WV P C o σ res:=by
 rcases sys_cases hs with rfl|rfl|rfl|rfl
 ·exact WV.inv (l:=[]) ho hr h1 rfl hx hp h
 ·exact WV.inv (l:=[]) ho hr h2 rfl hx hp h
 ·exact WV.inv (l:=[]) ho hr h3 rfl hx hp h
 ·exact WV.inv (l:=[]) ho hr h4 rfl hx hp h
abbrev hasF1:FuncId:=315
abbrev rightF1:FuncId:=320
abbrev graceF1:FuncId:=314
abbrev holdF1:FuncId:=316
abbrev hasF2:FuncId:=331
abbrev rightF2:FuncId:=335
abbrev graceF2:FuncId:=330
abbrev holdF2:FuncId:=329
abbrev hasF3:FuncId:=338
abbrev rightF3:FuncId:=343
abbrev graceF3:FuncId:=337
abbrev holdF3:FuncId:=339
abbrev hasF4:FuncId:=346
abbrev rightF4:FuncId:=350
abbrev graceF4:FuncId:=345
abbrev holdF4:FuncId:=329
def hasF(s:Int):FuncId:=if s=1 then hasF1 else if s=2 then hasF2 else if s=3 then hasF3 else hasF4
def rightF(s:Int):FuncId:=if s=1 then rightF1 else if s=2 then rightF2 else if s=3 then rightF3 else rightF4
def graceF(s:Int):FuncId:=if s=1 then graceF1 else if s=2 then graceF2 else if s=3 then graceF3 else graceF4
def holdF(s:Int):FuncId:=if s=1 then holdF1 else if s=2 then holdF2 else if s=3 then holdF3 else holdF4
theorem has_FS (s:Int)(hs:1≤s∧s≤4)(n:Int):Ctr Tryz.prog (hasF s) [.ag [],.sc (.int .i64 n)] (.sc (.bool (hasS s n))):=by
 rcases sys_cases hs with rfl|rfl|rfl|rfl
 ·exact Ctr.of_pl rfl (fun _=>.sc _) fun w=>phas_1 n w
 ·exact Ctr.of_pl rfl (fun _=>.sc _) fun w=>phas_2 n w
 ·exact Ctr.of_pl rfl (fun _=>.sc _) fun w=>phas_3 n w
 ·exact Ctr.of_pl rfl (fun _=>.sc _) fun w=>phas_4 n w
theorem right_FS (s:Int)(hs:1≤s∧s≤4)(n:Int)(h:0≤n∧n≤3):Ctr Tryz.prog (rightF s) [.ag [],.sc (.int .i64 n)] (.tu [.sc (.string (bs (rR s n))),.sc (.bool (okR s n))]):=by
 rcases sys_cases hs with rfl|rfl|rfl|rfl
 ·exact Ctr.of_pl rfl (fun _=>rp_tu2) fun w=>pright_1 n w h
 ·exact Ctr.of_pl rfl (fun _=>rp_tu2) fun w=>pright_2 n w h
 ·exact Ctr.of_pl rfl (fun _=>rp_tu2) fun w=>pright_3 n w h
 ·exact Ctr.of_pl rfl (fun _=>rp_tu2) fun w=>pright_4 n w h
theorem grace_FS (s:Int)(hs:1≤s∧s≤4)(n:Int)(h:0≤n∧n≤4):Ctr Tryz.prog (graceF s) [.ag [],.sc (.int .i64 n)] (.tu [.sc (.string (bs (rG s n))),.sc (.bool (okG s n))]):=by
 rcases sys_cases hs with rfl|rfl|rfl|rfl
 ·exact Ctr.of_pl rfl (fun _=>rp_tu2) fun w=>pgrace_1 n w h
 ·exact Ctr.of_pl rfl (fun _=>rp_tu2) fun w=>pgrace_2 n w h
 ·exact Ctr.of_pl rfl (fun _=>rp_tu2) fun w=>pgrace_3 n w h
 ·exact Ctr.of_pl rfl (fun _=>rp_tu2) fun w=>pgrace_4 n w h
theorem hold_FS (s:Int)(hs:1≤s∧s≤4)(n L:Int)(h:0≤n∧n≤15):Ctr Tryz.prog (holdF s) [.ag [],.sc (.int .i64 n),.sc (.int .i64 L)] (.tu [.sc (.string (bs (pH s n L))),.sc (.bool (okH s n L))]):=by
 rcases sys_cases hs with rfl|rfl|rfl|rfl
 ·exact Ctr.of_pl rfl (fun _=>rp_tu2) fun w=>phold_1 n L w h
 ·exact Ctr.of_pl rfl (fun _=>rp_tu2) fun w=>phold_2 n L w h
 ·exact Ctr.of_pl rfl (fun _=>rp_tu2) fun w=>phold_3 n L w h
 ·exact Ctr.of_pl rfl (fun _=>rp_tu2) fun w=>phold_4 n L w h
theorem finTrL {P:Program} {C:Cx} {σ σ':St} {fn:Func} {res:AV} {M':List (Nat×AO)} {nk':Nat} {e:Exit} (h:Tr C σ σ')(k:QFinM P fn C res M' nk' e σ'):QFinM P fn C res M' nk' e σ :=
 ⟨k.1,fun G a w ok=>by obtain⟨G',ok'⟩:=h G a w ok;exact k.2 G' a w ok'⟩
theorem finMuL {P:Program} {C:Cx} {σ:St} {fn:Func} {avs:List AV} {res:AV} {M':List (Nat×AO)} {nk':Nat} (h:resL P σ fn.results.toList=some avs)(hp:avs.all (fun av=>!ownB av)=true)(e:resT avs=res)(hM:σ.M=M')(hk:σ.nk=nk'):QFinM P fn C res M' nk' .normal σ :=
 ⟨.inl rfl,(finM h hp e hM hk).2⟩
end
section
open Go.RowKit
theorem of_FS (s:Int):Ctr Tryz.prog 50 [.sc (.int .u8 s)] (.tu [.sc (sysV s),.sc (.bool (decide (1≤s∧s≤4)))]):=by
 refine Ctr.of_sc (xs:=[.int .u8 s]) (v:=.tuple #[sysV s,.bool (decide (1≤s∧s≤4))]) rfl (fun F=>.tu _ _ rfl fun i av u a b=>?_) fun w=>?_
 ·match i with
  | 0=>cases a;cases b;exact .sc _
  | 1=>cases a;cases b;exact .sc _
  | i+2=>simp at a
 ·by_cases h:1≤s∧s≤4
  ·rcases sys_cases h with rfl|rfl|rfl|rfl
   ·exact (of_1 w).mono fun e w' ⟨he,hw⟩=>⟨he,hw ▸ Below.refl _ _⟩
   ·exact (of_2 w).mono fun e w' ⟨he,hw⟩=>⟨he,hw ▸ Below.refl _ _⟩
   ·exact (of_3 w).mono fun e w' ⟨he,hw⟩=>⟨he,hw ▸ Below.refl _ _⟩
   ·exact (of_4 w).mono fun e w' ⟨he,hw⟩=>⟨he,hw ▸ Below.refl _ _⟩
  ·have e:sysV s=.nilIface:=by
    unfold sysV
    rw [if_neg (by omega),if_neg (by omega),if_neg (by omega),if_neg (by omega)]
   rw [e,decide_eq_false h]
   exact (of_bad s w zqo).mono fun e w' ⟨he,hw⟩=>⟨he,hw ▸ Below.refl _ _⟩
end
section
open Go.RowKit
theorem rLong_FS (p:Pce) (hO:PcOk p) (i x:Int):Ctr Tryz.prog 102 [ePce p,.sc (.int .i64 i),.sc (.int .i64 x)] (.sc (.int .i64 (longestN p.evs i x))) :=
 Ctr.of_pc (pre:=[]) (post:=[.sc (.int .i64 i),.sc (.int .i64 x)]) rfl rfl (fun _=>.sc _) fun w M hM=>rLongest_any M p i x w hM hO
end
end Go.Proofs.YthehkchjdkdbiaaGreatDoor
