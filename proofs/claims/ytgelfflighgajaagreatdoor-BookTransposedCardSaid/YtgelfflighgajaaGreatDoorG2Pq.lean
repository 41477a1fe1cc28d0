/- A slice literal that is never written: a value like any other. -/
import Derived.Test.YtgelfflighgajaaGreatDoorFTsPq
import Derived.Test.YtgelfflighgajaaGreatDoorMk1Pq
set_option maxHeartbeats 4000000
set_option maxRecDepth 100000
set_option linter.unusedVariables false
set_option linter.unusedSimpArgs false
namespace Go.Proofs.YtgelfflighgajaaGreatDoor
section
open Go.RowKit
section
variable {B:World→View→Prop} {gl:Nat} {P:Program} {C:Cx} {σ:St} {o:Oper} {d:Tmp} {ops:Array Oper} {rest:List Oper} {Q:Exit→St→Prop} {mem:List Bool} {Mc:List (Nat×AO)} {nk0 k:Nat}
theorem Tr.nilC (k j n:Nat) {T:TypeId} {cells cells':List AV} (hk:look k σ.M=some (.box T cells)) (hj:cells[j]?=some (.sc (.slice none 0 0))) (he:cells.set j (.ls n [])=cells'):Tr C σ (σ.upd k (.box T cells')):=fun G a w ok=>by
 subst he
 obtain ⟨g1,g2,g3,cs,Φ,g4,g5,g6,g7,g8⟩:=ok.ob k _ hk
 have hjl:=(List.getElem?_eq_some_iff.1 hj).1
 refine ⟨G,ok.reob hk ⟨g1,fun i av hx=>?_,g3,cs,Φ,g4,by simpa using g5,g6,g7,fun i av u hx hu=>?_⟩⟩
 ·by_cases e:j=i
  ·subst e
   rw [List.getElem?_set_self hjl] at hx
   cases hx;exact .ls _ _
  ·rw [List.getElem?_set_ne e] at hx;exact g2 i av hx
 ·by_cases e:j=i
  ·subst e
   rw [List.getElem?_set_self hjl] at hx
   cases hx
   have:=(g8 j _ u hj hu).r rfl
   rw [this.sc_eq]
   exact .inl (.pu _ _ (.ls n [] none 0 ⟨0,0,none⟩ (fun _ _=>undef) (by simp) (by simp) (by simp) (by simp) (by simp)))
  ·rw [List.getElem?_set_ne e] at hx;exact g8 i av u hx hu
end
end
section
open Go.RowKit
section
variable {P:Program} {C:Cx} {σ:St} {o:Oper} {d:Tmp} {ops:Array Oper} {rest:List Oper} {Q:Exit→St→Prop} {mem:List Bool} {Mc:List (Nat×AO)} {nk0 k:Nat}
theorem put_row {T n i j:Nat} {rows:List (List AV)} {r l:List AV} (hr:rows[i]?=some r) (hj:j+l.length≤r.length) (hp:l.all AV.pu0=true):(AO.row T n rows).put i j l=some (.row T n (rows.set i (putL j l r))):=by
 simp only [AO.put,hr]
 rw [if_pos ⟨hj,hp⟩]
end
end
section
open Go.RowKit
def Gh.fpk(G:Gh)(k:Nat)(φ:Nat→Prop):Gh:=⟨G.F,G.b,G.n,G.h,fun q=>if q=k then φ else G.fp q⟩
theorem fpk_le (G:Gh)(k:Nat)(φ:Nat→Prop)(nk:Nat):G.le (G.fpk k φ) nk:=⟨fun _ _ h=>h,fun _ _=>rfl,fun _ _=>rfl,fun _ _=>rfl⟩
theorem fpk_same {G:Gh} {k:Nat} {φ:Nat→Prop}:(G.fpk k φ).fp k=φ:=if_pos rfl
theorem fpk_other {G:Gh} {k q:Nat} {φ:Nat→Prop} (h:q≠k):(G.fpk k φ).fp q=G.fp q:=if_neg h
section
variable {B:World→View→Prop} {gl:Nat} {P:Program} {C:Cx} {σ σ':St} {G G':Gh} {a:Act} {w w':World} {o:Oper} {d:Tmp} {ops:Array Oper} {rest:List Oper} {Q:Exit→St→Prop}
theorem Ok.refp (ok:Ok C σ G a w) {k:Nat} {ob ob':AO} {φ:Nat→Prop} (hk:look k σ.M=some ob) (hob:ObAt (G.fpk k φ) w k ob') (hbd:ob'.bd σ.nk)
  (hφ:∀ x,φ x→C.may x∧x<w.heap.size∧(∀ i o,i≠k→look i σ.M=some o→¬ G.fp i x)∧∀ p u,G.F p=some u→p.block≠x):Ok C (σ.upd k ob') (G.fpk k φ) a w:=by
 have hl:∀ k' o,look k' (σ.upd k ob').M=some o→(k'=k∧o=ob')∨(k'≠k∧look k' σ.M=some o):=fun k' o hx=>by
  by_cases e:k'=k
  ·subst e
   rw [show look k' (σ.upd k' ob').M=some ob' from look_set_same] at hx
   cases hx
   exact .inl ⟨rfl,rfl⟩
  ·rw [show look k' (σ.upd k ob').M=look k' σ.M from look_set_other e] at hx
   exact .inr ⟨e,hx⟩
 refine ⟨ok.sz,ok.df,fun i av h=>⟨(ok.tm i av h).1,(ok.tm i av h).2.1,(ok.tm i av h).2.2.mono (fpk_le G k φ σ.nk) (ok.tm i av h).2.1⟩,ok.bel,ok.fw,ok.f0,ok.f1,fun i o h=>?_,fun i o x h1 h2=>?_,fun i o i' o' x h1 h2 h3 h4=>?_,fun i o x p u h1 h2 h3=>?_⟩
 ·rcases hl i o h with⟨rfl,rfl⟩|⟨e,y⟩
  ·exact ⟨(ok.ob i _ hk).1,hbd,hob⟩
  ·obtain ⟨a1,a2,a3⟩:=ok.ob i o y
   exact ⟨a1,a2,a3.keep (fpk_le G k φ σ.nk) a1 a2 (fpk_other e) fun _ _=>rfl⟩
 ·rcases hl i o h1 with⟨rfl,rfl⟩|⟨e,y⟩
  ·rw [fpk_same] at h2;exact ⟨(hφ x h2).1,(hφ x h2).2.1⟩
  ·rw [fpk_other e] at h2;exact ok.my i o x y h2
 ·rcases hl i o h1 with⟨rfl,rfl⟩|⟨e,y⟩
  ·rcases hl i' o' h2 with⟨rfl,rfl⟩|⟨e',y'⟩
   ·rfl
   ·rw [fpk_same] at h3
    rw [fpk_other e'] at h4
    exact absurd h4 ((hφ x h3).2.2.1 i' o' e' y')
  ·rcases hl i' o' h2 with⟨rfl,rfl⟩|⟨e',y'⟩
   ·rw [fpk_same] at h4
    rw [fpk_other e] at h3
    exact absurd h3 ((hφ x h4).2.2.1 i o e y)
   ·rw [fpk_other e] at h3
    rw [fpk_other e'] at h4
    exact ok.dj i o i' o' x y y' h3 h4
 ·rcases hl i o h1 with⟨rfl,rfl⟩|⟨e,y⟩
  ·rw [fpk_same] at h2;exact (hφ x h2).2.2.2 p u h3
  ·rw [fpk_other e] at h2;exact ok.dF i o x p u y h2 h3
theorem RowIs.open_ {F:View} {T n:Nat} {rows:List (List AV)} {v:Value} {φ:Nat→Prop} (h:RowIs w T n rows v φ (XO F w)) {i j:Nat} {r:List AV} {av:AV} (hr:rows[i]?=some r) (hj:r[j]?=some av) :
  ∃ u ψ,OW F w av u ψ∧(∀ x,ψ x→φ x)∧u.oneCell'=true∧∀ (X:Nat→Nat→(Nat→Prop)→AV→Value→Prop),(∀ χ,X i j χ av u)→(∀ q s χ y z,¬ (q=i∧s=j)→OW F w y z χ→X q s χ y z)→RowIs w T n rows v (fun x=>φ x∧¬ ψ x) X:=by
 obtain ⟨h1,vs,Φ,h2,h3,h4,h5,h6,h7,h8,h9⟩:=h
 have hi:i<rows.length:=(List.getElem?_eq_some_iff.1 hr).1
 have hv:vs[i]?=some vs[i]:=List.getElem?_eq_getElem (by omega)
 have e1:=h8 i r _ hr hv
 have hjl:j<vs[i].length:=by rw [e1];exact (List.getElem?_eq_some_iff.1 hj).1
 have hu:vs[i][j]?=some vs[i][j]:=List.getElem?_eq_getElem hjl
 refine ⟨vs[i][j],Φ i j,h9 i r _ j av _ hr hv hj hu,fun x hx=>(h6 i j x hx).1,h4 _ (List.getElem_mem _) _ (List.getElem_mem _),fun X hX hO=>?_⟩
 refine ⟨h1,vs,fun q s x=>¬ (q=i∧s=j)∧Φ q s x,h2,h3,h4,fun g hg=>⟨h5 g hg,fun hx=>(h6 i j g hx).2 hg⟩,fun q s x hx=>⟨⟨(h6 q s x hx.2).1,fun hy=>hx.1 ((h7 q s i j x hx.2 hy))⟩,(h6 q s x hx.2).2⟩,fun q s q' s' x hx hy=>h7 q s q' s' x hx.2 hy.2,h8,fun q r1 r2 s y z a1 a2 a3 a4=>?_⟩
 by_cases e:q=i∧s=j
 ·obtain ⟨rfl,rfl⟩:=e
  rw [hr] at a1;cases a1
  rw [hv] at a2;cases a2
  rw [hj] at a3;cases a3
  rw [hu] at a4;cases a4
  exact hX _
 ·have:(fun x=>¬ (q=i∧s=j)∧Φ q s x)=Φ q s:=by
   funext x
   exact propext ⟨fun hx=>hx.2,fun hx=>⟨e,hx⟩⟩
  show X q s (fun x=>¬ (q=i∧s=j)∧Φ q s x) y z
  rw [this]
  exact hO q s _ y z e (h9 q r1 r2 s y z a1 a2 a3 a4)
theorem Tr.open_ (k i j:Nat) {T n T' n' m:Nat} {rows rows':List (List AV)} {r:List AV} (hk:look k σ.M=some (.rwn T n rows)) (hr:rows[i]?=some r) (hj:r[j]?=some (.ow T' n' rows')) (hp:∀ q∈rows',∀ av∈q,av.own=false) (hm:σ.nk=m) :
  Tr C σ ((σ.new (.row T' n' rows')).upd k (.rwo T n rows i j (.sl m))):=fun G a w ok=>by
 subst hm
 obtain ⟨g1,_,g3,g4,g5⟩:=ok.ob k _ hk
 obtain ⟨u,ψ,hO,hψ,hone,hX⟩:=g5.open_ hr hj
 have hR:=hO.row
 have ok1:=ok.refp (φ:=fun x=>G.fp k x∧¬ ψ x) (ob':=.rwo T n rows i j (.sc u)) hk ⟨g3,g4,by
  rw [fpk_same]
  refine hX (XQ (G.fpk k _) w i j (.sc u)) (fun χ=>?_) fun q s χ y z hne hy=>?_
  ·unfold XQ
   rw [if_pos ⟨rfl,rfl⟩]
   exact .pu _ _ (.sc u)
  ·unfold XQ
   rw [if_neg hne]
   exact hy⟩ (.sc u) fun x hx=>⟨(ok.my k _ x hk hx.1).1,(ok.my k _ x hk hx.1).2,fun q oq hq h1 h2=>hq (ok.dj q oq k _ x h1 hk h2 hx.1),fun p v=>ok.dF k _ x p v hk hx.1⟩
 have ok2:=ok1.newObj (S:=fun _=>False) (b:=u.ownBlock.getD 0) (n:=n') (h:=u) (φ:=ψ) (ob:=.row T' n' rows') (Kept.refl _ w) (fun _ h=>h.elim) (fun _ _ _ _ _ h=>h) (fun _ _ _ h=>h)
  ⟨with_n,(fun g hg=>by rw [with_h] at hg;rw [with_b,hg];rfl),by
   rw [with_h,with_f]
   exact hR.keep (fun _ _=>rfl) fun q rr s av χ z a1 a2 _ x=>OW.p x (hp rr (List.mem_of_getElem? a1) av (List.mem_of_getElem? a2))⟩ trivial
  (fun x hx=>⟨(ok.my k _ x hk (hψ x hx)).1,(ok.my k _ x hk (hψ x hx)).2,fun q oq h1 h2=>by
   by_cases e:q=k
   ·subst e
    rw [fpk_same] at h2
    exact h2.2 hx
   ·rw [fpk_other e] at h2
    rw [show look q (σ.upd k _).M=look q σ.M from look_set_other e] at h1
    exact e (ok.dj q oq k _ x h1 hk h2 (hψ x hx)),fun p v h1=>ok.dF k _ x p v hk (hψ x hx) h1⟩)
 have hkn:k≠(σ.upd k (.rwo T n rows i j (.sc u))).nk:=Nat.ne_of_lt g1
 have hk2:look k ((σ.upd k (.rwo T n rows i j (.sc u))).new (.row T' n' rows')).M=some (.rwo T n rows i j (.sc u)):=(look_set_other hkn).trans look_set_same
 obtain ⟨b1,b2,b3,b4,b5⟩:=ok2.ob k _ hk2
 have ok3:=ok2.reob (ob':=.rwo T n rows i j (.sl σ.nk)) hk2 ⟨b1,.sl _ (Nat.lt_succ_self _),b3,b4,b5.keep (fun _ _=>rfl) fun q rr s av χ z _ _ _ x=>by
  unfold XQ at x ⊢
  by_cases e:q=i∧s=j
  ·rw [if_pos e] at x ⊢
   rw [x.sc_eq]
   exact with_sl hone
  ·rw [if_neg e] at x ⊢
   exact x⟩
 have hl:∀ q,look q ((σ.new (.row T' n' rows')).upd k (.rwo T n rows i j (.sl σ.nk))).M=look q (((σ.upd k (.rwo T n rows i j (.sc u))).new (.row T' n' rows')).upd k (.rwo T n rows i j (.sl σ.nk))).M:=fun q=>by
  by_cases e:q=k
  ·subst e;exact look_set_same.trans look_set_same.symm
  ·refine (look_set_other e).trans (Eq.trans ?_ (look_set_other e).symm)
   by_cases e2:q=σ.nk
   ·subst e2;exact look_set_same.trans look_set_same.symm
   ·exact (look_set_other e2).trans ((look_set_other e2).trans (look_set_other e)).symm
 exact ⟨_,ok3.sz,ok3.df,ok3.tm,ok3.bel,ok3.fw,ok3.f0,ok3.f1,fun q x hx=>ok3.ob q x (by rw [← hl];exact hx),fun q x y hx=>ok3.my q x y (by rw [← hl];exact hx),fun q x q' x' y hx hx'=>ok3.dj q x q' x' y (by rw [← hl];exact hx) (by rw [← hl];exact hx'),fun q x y p u hx=>ok3.dF q x y p u (by rw [← hl];exact hx)⟩
theorem Tr.close_ (k:Nat) {T n T' n' m i j:Nat} {rows rows' rows2:List (List AV)} {r:List AV} (hk:look k σ.M=some (.rwo T n rows i j (.sl m))) (hm:look m σ.M=some (.row T' n' rows')) (hkm:Nat.beq k m=false) (hr:rows[i]?=some r) (hj:j<r.length) (he:rows.set i (r.set j (.ow T' n' rows'))=rows2) :
  Tr C σ ((σ.drop m).upd k (.rwn T n rows2)):=fun G a w ok=>by
 subst he
 have hne:k≠m:=fun e=>by rw [e,Nat.beq_refl] at hkm;cases hkm
 obtain ⟨g1,_,g3,g4,g5⟩:=ok.ob k _ hk
 obtain ⟨m1,_,m3,m4,m5⟩:=ok.ob m _ hm
 have okd:=ok.drop_ m
 have hkd:look k (σ.drop m).M=some (.rwo T n rows i j (.sl m)):=by
  show look k (rem m σ.M)=_
  rw [look_rem,if_neg hne];exact hk
 have hIn:OW G.F w (.ow T' n' rows') (G.h m) (G.fp m):=(m5.keep (X':=XO G.F w) (fun _ _=>rfl) fun q rr s av χ z _ _ _ x=>.pu _ _ _ x).ow
 have hi:i<rows.length:=(List.getElem?_eq_some_iff.1 hr).1
 have hdj:∀ x,G.fp k x→G.fp m x→False:=fun x h1 h2=>hne (ok.dj k _ m _ x hk hm h1 h2)
 refine ⟨G.fpk k (fun x=>G.fp k x∨G.fp m x),okd.refp hkd ⟨g3,g4,?_⟩ trivial fun x hx=>?_⟩
 ·rw [fpk_same]
  obtain ⟨h1,vs,Φ,h2,h3,h4,h5,h6,h7,h8,h9⟩:=g5
  have key:∀ q s,(if q=i∧s=j then (fun (_:Unit)=>G.fp m) else (fun _=>Φ q s)) ()=fun x=>(q=i∧s=j∧G.fp m x)∨(¬ (q=i∧s=j)∧Φ q s x):=fun q s=>by
   by_cases e:q=i∧s=j
   ·rw [if_pos e]
    funext x
    exact propext ⟨fun h=>.inl ⟨e.1,e.2,h⟩,fun h=>h.elim (fun y=>y.2.2) fun y=>absurd e y.1⟩
   ·rw [if_neg e]
    funext x
    exact propext ⟨fun h=>.inr ⟨e,h⟩,fun h=>h.elim (fun y=>absurd ⟨y.1,y.2.1⟩ e) fun y=>y.2⟩
  refine ⟨fun q hq=>?_,vs,fun q s x=>(q=i∧s=j∧G.fp m x)∨(¬ (q=i∧s=j)∧Φ q s x),h2,by simpa using h3,h4,fun g hg=>.inl (h5 g hg),fun q s x hx=>?_,fun q s q' s' x hx hy=>?_,fun q r1 r2 a1 a2=>?_,fun q r1 r2 s y z a1 a2 a3 a4=>?_⟩
  ·rcases List.mem_or_eq_of_mem_set hq with hq|rfl
   ·exact h1 q hq
   ·rw [List.length_set];exact h1 r (List.mem_of_getElem? hr)
  ·rcases hx with⟨_,_,hx⟩|⟨_,hx⟩
   ·exact ⟨.inr hx,fun e=>hdj x (h5 x e) hx⟩
   ·exact ⟨.inl (h6 q s x hx).1,(h6 q s x hx).2⟩
  ·rcases hx with⟨e1,e2,hx⟩|⟨_,hx⟩
   ·rcases hy with⟨e3,e4,hy⟩|⟨_,hy⟩
    ·exact ⟨e1.trans e3.symm,e2.trans e4.symm⟩
    ·exact (hdj x (h6 _ _ x hy).1 hx).elim
   ·rcases hy with⟨e3,e4,hy⟩|⟨_,hy⟩
    ·exact (hdj x (h6 _ _ x hx).1 hy).elim
    ·exact h7 q s q' s' x hx hy
  ·by_cases e:i=q
   ·subst e
    rw [List.getElem?_set_self hi] at a1
    cases a1
    rw [List.length_set];exact h8 i r r2 hr a2
   ·rw [List.getElem?_set_ne e] at a1
    exact h8 q r1 r2 a1 a2
  ·show OW G.F w y z (fun x=>(q=i∧s=j∧G.fp m x)∨(¬ (q=i∧s=j)∧Φ q s x))
   rw [← key q s]
   by_cases e:i=q
   ·subst e
    rw [List.getElem?_set_self hi] at a1
    cases a1
    by_cases e2:j=s
    ·subst e2
     rw [List.getElem?_set_self hj] at a3
     cases a3
     rw [if_pos ⟨rfl,rfl⟩]
     have:=h9 i r r2 j r[j] z hr a2 (List.getElem?_eq_getElem hj) a4
     unfold XQ at this
     rw [if_pos ⟨rfl,rfl⟩] at this
     rw [this.sl_of.1]
     exact hIn
    ·rw [List.getElem?_set_ne e2] at a3
     rw [if_neg (fun h=>e2 h.2.symm)]
     have:=h9 i r r2 s y z hr a2 a3 a4
     unfold XQ at this
     rw [if_neg (fun h=>e2 h.2.symm)] at this
     exact this
   ·rw [List.getElem?_set_ne e] at a1
    rw [if_neg (fun h=>e h.1.symm)]
    have:=h9 q r1 r2 s y z a1 a2 a3 a4
    unfold XQ at this
    rw [if_neg (fun h=>e h.1.symm)] at this
    exact this
 ·have old:∀ q oq,look q σ.M=some oq→(q=k∨q=m)→G.fp q x→C.may x∧x<w.heap.size∧(∀ i o,i≠k→look i (σ.drop m).M=some o→¬ G.fp i x)∧∀ p u,G.F p=some u→p.block≠x:=fun q oq hq hkq hx=>by
   refine ⟨(ok.my q oq x hq hx).1,(ok.my q oq x hq hx).2,fun i' o' hi' h1 h2=>?_,fun p u=>ok.dF q oq x p u hq hx⟩
   obtain ⟨d1,d2⟩:=drop_look h1
   have:=ok.dj i' o' q oq x d2 hq h2 hx
   rcases hkq with e|e
   ·exact hi' (this.trans e)
   ·exact d1 (this.trans e)
  rcases hx with hx|hx
  ·exact old k _ hk (.inl rfl) hx
  ·exact old m _ hm (.inr rfl) hx
theorem WO.stQ {T T' n:Nat} {x y:Operand} {k i j:Nat} {ob:AO} {rows:List (List AV)} {r:List AV} {av:AV} (ho:o.op=.store T x y) (hds:o.dst=none) (hn:sizeB P T=some 1) (hx:σ.ev x=some (.pt k i j)) (hk:look k σ.M=some ob) (hob:ob=.rwn T' n rows∨∃ y,ob=.rwo T' n rows i j y) (hy:σ.ev y=some av)
  (h1:av.oneB=true) (hr:rows[i]?=some r) (hj:j < r.length):WO P C o σ (σ.upd k (.rwo T' n rows i j av)):=by
 intro G a w ok N Q' hN
 obtain ⟨p,ep,p1,p2,p3⟩:=(ok.evr hx).2.pt_of
 obtain ⟨hb,hr2⟩:=ok.evr hy
 obtain ⟨hB,hcl⟩:=oneB_cells h1
 obtain ⟨c1,c2⟩:=cells_of hr2 hB
 rw [hcl] at c1 c2
 obtain ⟨v,hv⟩:∃ v,a.eval y=v:=⟨_,rfl⟩
 rw [hv] at c1 c2
 have c1':v.cells.size=1:=c1
 have hone:∀ u∈v.cells.toList,u.oneCell'=true:=fun u hu=>by
  obtain ⟨q,hq,rfl⟩:=List.getElem_of_mem hu
  have hq':q < v.cells.size:=by simpa using hq
  obtain rfl:q=0:=by omega
  exact oneB_of (c2 0 av _ rfl (by simp at hq;simp [hq])) h1
 obtain rfl:=addr_eq p1 p2 p3
 obtain ⟨hn',hg,X,hR,hXO⟩:G.n k=n∧(∀ g,(G.h k).ownBlock=some g→g=G.b k)∧∃ X,RowIs w T' n rows (G.h k) (G.fp k) X∧∀ q s χ y z,¬ (q=i∧s=j)→X q s χ y z→OW G.F w y z χ:=by
  rcases hob with e|⟨y0,e⟩
  ·subst e
   obtain ⟨q1,q2,q3⟩:=(ok.ob k _ hk).2.2
   exact ⟨q1,q2,_,q3,fun q s χ y z _ h=>h⟩
  ·subst e
   obtain ⟨q1,q2,q3⟩:=(ok.ob k _ hk).2.2
   refine ⟨q1,q2,_,q3,fun q s χ y z hne h=>?_⟩
   unfold XQ at h
   rw [if_neg hne] at h
   exact h
 obtain ⟨g,cur,hvg,hφg,hh⟩:=hR.blk (by have:=(List.getElem?_eq_some_iff.1 hr).1;omega)
 have hgb:=hg g hvg
 have hpu:putL j [r[j]] r=r:=by rw [putL_one _ _ _ hj];exact set_same_ (List.getElem?_eq_getElem hj)
 obtain ⟨q1,q2⟩:=hR.put (X':=XQ G (w.setRow g (putL (i*n+j) v.cells.toList cur.toList).toArray) i j av) hr (j:=j) (l:=[r[j]]) (by simp;omega) (us:=v.cells.toList) (by simpa using c1') hone hh hvg (fun s x u ψ hs hu=>by
  have hs0:s < 1:=by simpa using (List.getElem?_eq_some_iff.1 hs).1
  obtain rfl:s=0:=by omega
  unfold XQ
  rw [if_pos ⟨rfl,Nat.add_zero j⟩]
  exact c2 0 av u rfl (by simpa using hu)) (fun q s ψ x u hz hne h=>by
  have hn:¬ (q=i∧s=j):=fun e=>hne ⟨e.1,Nat.le_of_eq e.2.symm,by rw [e.2];exact Nat.lt_succ_self j⟩
  unfold XQ
  rw [if_neg hn]
  exact OW.keep (fun _ _ h=>h) (hXO q s ψ x u hn h) fun z hz'=>setRow_other w _ z _ (hz z hz'))
 rw [hpu,set_same_ hr] at q2
 have hle:i*G.n k+j+v.cells.toList.length≤cur.size:=by rw [hn'];exact q1
 have hst:=run_storeCells_at P g (i*G.n k+j) T' v.cells.toList 0 cur w hh (by simpa using hle) hone
 rw [Nat.add_zero,← putL_eq _ _ _ (by simpa using hle)] at hst
 unfold Oper.wp execOp
 simp only [ho,ep,hv,Instr.storeAt,Instr.sureAddr,storeVar,Sem.run_bind,Sem.run_pure,Result.andThen_ok,run_sizeB hn,← hgb,hst]
 rw [if_neg (by rw [c1'];simp)]
 simp only [Sem.run_bind,Sem.run_pure,Result.andThen_ok,hst,Oper.upon]
 rw [hds]
 refine hN G _ _ (ok.write _ hk hφg ?_ hb)
 exact ⟨hn',hg,by rw [hn'];exact q2⟩
def stQV (P:Program)(σ:St):Op→Option (Nat×TypeId×Nat×List (List AV)×Nat×Nat×AV)
 | .store T x y =>
  match σ.ev x,σ.ev y with
  | some (.pt k i j),some av =>
   match sizeB P T,look k σ.M with
   | some 1,some (.rwn T' n rows)=>bif av.oneB then some (k,T',n,rows,i,j,av)else none
   | _,_=>none
  | _,_=>none
 | _=>none
def stRV (P:Program)(σ:St):Op→Option (Nat×TypeId×Nat×List (List AV)×Nat×Nat×Nat×Nat×AV)
 | .store T x y =>
  match σ.ev x,σ.ev y with
  | some (.pt k i j),some av =>
   match sizeB P T,look k σ.M with
   | some 1,some (.rwo T' n rows hi hj _)=>bif av.oneB then some (k,T',n,rows,i,j,hi,hj,av)else none
   | _,_=>none
  | _,_=>none
 | _=>none
theorem WV.ldQ {T T' n:Nat} {x:Operand} {k i j:Nat} {rows:List (List AV)} {r:List AV} {av:AV} (ho:o.op=.load T x) (hT:aggB P T=some false) (hx:σ.ev x=some (.pt k i j)) (hk:look k σ.M=some (.rwo T' n rows i j av)) (hr:rows[i]?=some r) (hj:j<r.length):WV P C o σ av :=
 WV.val (fun G a w ok=>(ok.ob k _ hk).2.1) fun G a w ok=>by
  obtain ⟨p,e,h1,h2,h3⟩:=(ok.evr hx).2.pt_of
  obtain rfl:=addr_eq h1 h2 h3
  obtain ⟨hn,hg,hR⟩:=(ok.ob k _ hk).2.2
  obtain ⟨u,hu,ψ,hX⟩:=hR.cell_at hg hr (List.getElem?_eq_getElem hj)
  unfold XQ at hX
  rw [if_pos ⟨rfl,rfl⟩] at hX
  rw [← hn] at hu
  exact ⟨u,by unfold execOp;simp [ho,e,run_load1 hT hu],hX⟩
def ldqV (P:Program)(σ:St):Op→Option (List (List AV)×Nat×Nat×Nat×Nat×AV)
 | .load T x =>
  match aggB P T,σ.ev x with
  | some false,some (.pt k i j) =>
   match look k σ.M with
   | some (.rwo _ _ rows hi hj av)=>some (rows,i,j,hi,hj,av)
   | _=>none
  | _,_=>none
 | _=>none
theorem ldqV_O {rows:List (List AV)} {i j hi hj:Nat} {r:List AV} {av:AV} (h:ldqV P σ o.op=some (rows,i,j,hi,hj,av))(e1:i=hi)(e2:j=hj)(hr:rows[i]?=some r)(hjr:j<r.length):WV P C o σ av:=by
 subst e1 e2
 unfold ldqV at h
 split at h
 ·rename_i T x ho
  split at h
  ·rename_i k i' j' hT hx
   split at h
   ·rename_i T' n rows' hi' hj' av' hk
    cases h
    exact WV.ldQ ho hT hx hk hr hjr
   ·cases h
  ·cases h
 ·cases h
def Lent (C:Cx)(σ:St)(av av':AV):Prop:=∀ G a w,Ok C σ G a w→∀ v,R G av v→RP (fun q=>w.cell? q) av' v
inductive Lents (C:Cx) (σ:St):List AV→List AV→Prop
 | nil:Lents C σ [] []
 | cons {x y:AV} {l m:List AV}:Lent C σ x y→Lents C σ l m→Lents C σ (x::l) (y::m)
theorem Lents.at_ {l m:List AV} (h:Lents C σ l m):l.length=m.length∧∀ (i:Nat)y,m[i]?=some y→∃ x,l[i]?=some x∧Lent C σ x y:=by
 induction h with
 | nil=>exact⟨rfl,fun i y hy=>by simp at hy⟩
 | cons h1 _ ih =>
  refine⟨by simp [ih.1],fun i y hy=>?_⟩
  cases i with
  | zero=>cases hy;exact⟨_,rfl,h1⟩
  | succ i=>exact ih.2 i y (by simpa using hy)
theorem Lent.rwn (dp:Nat) {k T n:Nat} {rows rows':List (List AV)} (hk:look k σ.M=some (.rwn T n rows)) (hs:∀ r∈rows,∀ av∈r,av.shal dp=true) (hr:(rows.map fun r=>r.map (AV.fz dp))=rows'):Lent C σ (.sl k) (.ls n rows'):=fun G a w ok v h=>by
 rw [h.sl_of.1,← hr]
 obtain ⟨_,_,hob⟩:=ok.ob k _ hk
 exact RowIs.fix (F':=fun q=>w.cell? q) (AV.fz dp) hob.2.2 (fun _ _=>rfl) fun i r j av u ψ hr hav hψ x=>OW.fix (fun p u x=>ok.fw p u x) dp x (fun _ _=>rfl) (hs r (List.mem_of_getElem? hr) av (List.mem_of_getElem? hav))
theorem WV.lendX (hB:Holds B gl C) {f:FuncId} {xs:Array Operand} {ts:Array TypeId} {args args':List AV} {res:Value} (ho:o.op=.call { callee:=.value (.func f),args:=xs,argTypes:=ts }) (hc:∀ vs w,(callFunc f vs).run P w=.ok (.enter f vs) w)
  (hx:σ.evs xs.toList=some args) (hl:Lents C σ args args') (hst:∀ w F F',View.le F F'→B w F→B w F') (h:Ctg B P f args' (.sc res)):WV P C o σ (.sc res):=by
 intro G a w ok N Q' hN
 obtain ⟨e1,e2⟩:=ok.evl hx
 obtain ⟨q1,q2⟩:=hl.at_
 have hF:G.F.le fun q=>w.cell? q:=fun p u x=>ok.fw p u x
 have hcalls:=h w (fun q=>w.cell? q) (xs.toList.map a.eval) (hst w _ _ hF (hB.1 w G.F ok.bel ok.f0)) (fun _ _ x=>x) ⟨by rw [e1,q1],fun i av u p q=>by
  obtain ⟨b,hb,hL⟩:=q2 i av p
  exact hL G a w ok u (e2 i b u hb q)⟩
 unfold Oper.wp execOp
 have ev:a.eval (.func f)=.func (.func f) #[] #[]:=rfl
 have e3:(#[]++xs.map a.eval++#[]:Array Value)=(xs.toList.map a.eval).toArray:=by apply Array.ext';simp
 simp only [ho,resolve,ev,Deferred.ofValue,invoke,Sem.run_bind,Sem.run_pure,Result.andThen_ok,hc,Oper.upon,e3]
 refine hcalls.mono fun e w1 ⟨v,F',he,hb,h1,h2,h3,h4⟩=>?_
 subst he
 have hv:=h4.sc_eq
 subst hv
 exact hN _ { G with F:=G.F } w1 (fun σ'' a'' ok''=>ok''.called hb (fun _ _ x=>x) (fun p u x=>by rw [hb.cell (cell_block (ok.fw p u x))];exact ok.fw p u x) (fun _ _ x=>.inl x)) (.pu _ _ (.sc _)) (RP.bd (F:=G.F) (.sc _) _)
end
end
section
open Go.RowKit
section
variable {P:Program} {C:Cx} {σ:St} {G:Gh} {a:Act} {w:World} {o:Oper} {d:Tmp} {ops:Array Oper} {rest:List Oper} {Q:Exit→St→Prop}
theorem WO.buildO {T e n q:Nat} {z:Value} {parts:Array (Nat×Operand)} {x0:Operand} {av0 y0:AV} {j0:Nat} (ho:o.op=.buildSlice T 1 parts) (hT:P.underlying T=some (.slice e)) (hn:sizeB P e=some n) (hz:(P.info? e).bind (·.zero)=some z)
  (hp:parts.toList=number 0 [x0]) (hb:Nat.ble (1*n) 16777216=true) (hds:o.dst=some d) (hd:Nat.blt d C.N=true) (hx:σ.ev x0=some av0) (hcB:av0.cellB=true) (hcl:av0.cells.length=n) (hc1:av0.cells.all AV.oneB=true) (hcj:av0.cells[j0]?=some y0) (hc0:∀ s x,s≠j0→av0.cells[s]?=some x→x.pu0=true) (hq:σ.nk=q) :
  WO P C o σ ((σ.new (.rwo e n [av0.cells] 0 j0 y0)).put d (.sl q)):=by
 intro G a w ok N Q' hN
 obtain ⟨hbd,hr⟩:=ok.evr hx
 obtain ⟨c1,c2⟩:=cells_of hr hcB
 have hv:(a.eval x0).cells.size=n:=c1.trans hcl
 have hrun:=run_buildS (P:=P) (T:=T) (e:=e) (n:=n) (m:=1) (vs:=[a.eval x0]) (parts:=parts.map fun (i,x)=>(i,a.eval x)) hT hn hz (by
  have:=number_map a.eval 0 [x0]
  rw [← hp] at this
  simpa using this) rfl (fun v hv'=>by obtain rfl:=List.mem_singleton.1 hv';exact hv) (Nat.le_of_ble_eq_true hb) w
 have hfl:(([a.eval x0]).map fun v=>v.cells.toList).flatten=(a.eval x0).cells.toList:=by simp
 have hown:=own_built w e n 1 (([a.eval x0]).map fun v=>v.cells.toList).flatten.toArray (by unfold maxLen;omega) (by
  rw [hfl,Array.toArray_toList,hv];omega)
 have honeR:∀ r∈[(a.eval x0).cells.toList],∀ u∈r,u.oneCell'=true:=fun r hr' u hu=>by
  obtain rfl:=List.mem_singleton.1 hr'
  obtain ⟨j,hj,rfl⟩:=List.getElem_of_mem hu
  have hj2:j<av0.cells.length:=by rw [← c1];simpa using hj
  exact oneB_of (c2 j _ _ (List.getElem?_eq_getElem hj2) (by simp at hj;simp [hj])) (List.all_eq_true.1 hc1 _ (List.getElem_mem hj2))
 have hsl:(.slice (some ⟨w.heap.size,0,none⟩) 1 1:Value).ownBlock=some w.heap.size:=rfl
 have hy:Bd σ.nk y0:=cells_bd hbd j0 y0 hcj
 have ok':=ok.newObj (w':=w.alloc (.cells (([a.eval x0]).map fun v=>v.cells.toList).flatten.toArray e)) (S:=fun _=>False) (b:=w.heap.size) (n:=n) (h:=.slice (some ⟨w.heap.size,0,none⟩) 1 1) (φ:=fun x=>x=w.heap.size) (ob:=.rwo e n [av0.cells] 0 j0 y0)
  (Kept.below ((Below.refl _ _).alloc (Nat.le_refl _) _)) (fun _ h=>h.elim) (fun _ _ _ _ _ h=>h) (fun _ _ _ h=>h)
  ⟨with_n,(fun g hg=>by rw [with_h,hsl] at hg;rw [with_b];exact (Option.some.inj hg).symm),by
   rw [with_h,with_f]
   refine ⟨fun r hr'=>by obtain rfl:=List.mem_singleton.1 hr';exact hcl,[(a.eval x0).cells.toList],fun _ _ _=>False,?_,rfl,honeR,fun g hg=>by rw [hsl] at hg;exact (Option.some.inj hg).symm,
    fun _ _ _ h=>h.elim,fun _ _ _ _ _ h=>h.elim,fun i r r' h1 h2=>?_,fun i r r' j av u h1 h2 h3 h4=>?_⟩
   ·exact own_weaken (by simpa using hown) (Nat.zero_le _)
   ·cases i with
    | zero=>cases h1;cases h2;simpa using c1
    | succ i=>simp at h1
   ·cases i with
    | succ i=>simp at h1
    | zero =>
     cases h1;cases h2
     have hR:=c2 j av u h3 (by simpa using h4)
     unfold XQ
     by_cases e:j=j0
     ·subst e
      rw [if_pos ⟨rfl,rfl⟩]
      rw [hcj] at h3
      cases h3
      exact hR.mono (G.with_le σ.nk _ _ _ _) hy
     ·rw [if_neg (fun h=>e h.2)]
      exact .pu _ _ _ (show RP G.F av u from (pu0_bd (hc0 j av e h3) 0).rp hR)⟩ (hy.mono (Nat.le_succ _)) (fun x hx=>by
   obtain rfl:x=w.heap.size:=hx
   refine ⟨.inl ok.bel.size,by simp,fun k o h1 h2=>?_,fun p u h1 h2=>?_⟩
   ·have:=(ok.my k o _ h1 h2).2;omega
   ·have:=cell_block (ok.fw p u h1);omega)
 unfold Oper.wp execOp
 simp only [ho,Sem.run_bind,hrun,Result.andThen_ok,Sem.run_pure,Oper.upon]
 rw [hds]
 subst hq
 exact hN _ _ _ (ok'.set (d:=some d) (av:=.sl σ.nk) (v:=.slice (some ⟨w.heap.size,0,none⟩) 1 1) (with_sl rfl) (.sl _ (Nat.lt_succ_self _)) fun x hx=>by cases hx;exact of_blt hd)
structure BdD where
 e:TypeId
 n:Nat
 cells:List AV
def bdoV (P:Program) (σ:St):Op→Option BdD
 | .buildSlice T 1 ⟨[(0,x)]⟩ =>
  match P.underlying T,σ.ev x with
  | some (.slice e),some av =>
   match sizeB P e,(P.info? e).bind (·.zero) with
   | some n,some _=>bif av.cellB && Nat.beq av.cells.length n && av.cells.all AV.oneB && Nat.ble (1*n) 16777216 then some ⟨e,n,av.cells⟩ else none
   | _,_=>none
  | _,_=>none
 | _=>none
def pu0But (j:Nat):Nat→List AV→Bool
 | _,[]=>true
 | s,x::r=>(Nat.beq s j|| x.pu0) && pu0But j (s+1) r
theorem pu0But_at {j:Nat}:∀ {l:List AV} {s:Nat},pu0But j s l=true→∀ i x,s+i≠j→l[i]?=some x→x.pu0=true
 | [],s,_,i,x,_,h=>by simp at h
 | y::r,s,hp,i,x,hi,h=>by
  simp only [pu0But,Bool.and_eq_true,Bool.or_eq_true] at hp
  cases i with
  | zero =>
   cases h
   rcases hp.1 with e|e
   ·exact absurd (Nat.eq_of_beq_eq_true e) hi
   ·exact e
  | succ i=>exact pu0But_at hp.2 i x (by omega) (by simpa using h)
theorem WL.bdO {x:BdD} {t:List (Nat×AV)} {M:List (Nat×AO)} {nk:Nat} (j:Nat) {y:AV} (hd:dstB C.N o=some d) (h:bdoV P ⟨t,M,nk⟩ o.op=some x) (hj:x.cells[j]?=some y) (hp:pu0But j 0 x.cells=true)
  (k:WL P C ops rest ⟨(d,.sl nk)::t,(nk,.rwo x.e x.n [x.cells] 0 j y)::M,nk+1⟩ Q):WL P C ops (o::rest) ⟨t,M,nk⟩ Q:=by
 obtain ⟨hg,hds,hdb⟩:=dstB_of hd
 refine WL.op hg ?_ k
 unfold bdoV at h
 split at h
 ·rename_i T x0 ho
  split at h
  ·rename_i e av hT hx
   split at h
   ·rename_i n z hn hz
    cases hb:av.cellB && Nat.beq av.cells.length n && av.cells.all AV.oneB && Nat.ble (1*n) 16777216 with
    | false=>rw [hb] at h;cases h
    | true =>
     rw [hb] at h
     cases h
     simp only [Bool.and_eq_true] at hb
     obtain ⟨⟨⟨b1,b2⟩,b3⟩,b4⟩:=hb
     exact WO.buildO (σ:=⟨t,M,nk⟩) ho hT hn hz rfl b4 hds hdb hx b1 (Nat.eq_of_beq_eq_true b2) b3 hj (fun s x hs hx=>pu0But_at hp s x (by omega) hx) rfl
   ·cases h
  ·cases h
 ·cases h
structure ApmD where
 T:TypeId
 n:Nat
 k:Nat
 q:Nat
 a:List (List AV)
 b:List (List AV)
def apmV (P:Program) (σ:St):Op→Option ApmD
 | .call { callee:=.builtin .append,args:=⟨[x,y]⟩,argTypes:=⟨[T,T']⟩ } =>
  match P.underlying T,σ.ev x,σ.ev y with
  | some (.slice e),some (.sl k),some (.sl q) =>
   match P.info? e,look k σ.M,look q σ.M with
   | some i,some (.rwn e' n rows),some (.rwn _ n' rows2) =>
    match i.zero with
    | some z=>bif Nat.beq T T' && Nat.beq e e' && Nat.beq n n' && Nat.beq i.size n && Nat.beq z.cells.size n && Nat.blt 0 n && Nat.ble i.bytes 100000 && !Nat.beq k q then some ⟨e,n,k,q,rows,rows2⟩else none
    | _=>none
   | _,_,_=>none
  | _,_,_=>none
 | _=>none
theorem WL.apM {x:ApmD} {t:List (Nat×AV)} {M M1 M':List (Nat×AO)} {nk:Nat} (hd:dstB C.N o=some d) (h:apmV P ⟨t,M,nk⟩ o.op=some x) (hM:remS x.k M=some M1) (hM2:remS x.q M1=some M') (hl:x.a.length+x.b.length≤1000000000)
  (k:WL P C ops rest ⟨(d,.sl nk)::t,(nk,.rwn x.T x.n (x.a++x.b))::M',nk+1⟩ Q):WL P C ops (o::rest) ⟨t,M,nk⟩ Q:=by
 rw [remS_eq hM2,remS_eq hM] at k
 obtain ⟨hg,hds,hdb⟩:=dstB_of hd
 refine WL.op hg ?_ k
 unfold apmV at h
 split at h
 ·rename_i x0 y0 T T' ho
  split at h
  ·rename_i e k' q' hT hx hy
   split at h
   ·rename_i i e' n rows e2 n' rows2 hi hk hq
    split at h
    ·rename_i z hz
     cases hb:Nat.beq T T' && Nat.beq e e' && Nat.beq n n' && Nat.beq i.size n && Nat.beq z.cells.size n && Nat.blt 0 n && Nat.ble i.bytes 100000 && !Nat.beq k' q' with
     | false=>rw [hb] at h;cases h
     | true =>
      rw [hb] at h
      simp only [Bool.and_eq_true,Bool.not_eq_true'] at hb
      cases h
      obtain ⟨⟨⟨⟨⟨⟨⟨b1,b2⟩,b3⟩,b4⟩,b5⟩,b6⟩,b7⟩,b8⟩:=hb
      obtain rfl:=Nat.eq_of_beq_eq_true b1
      obtain rfl:=Nat.eq_of_beq_eq_true b2
      obtain rfl:=Nat.eq_of_beq_eq_true b3
      exact WO.appendM (σ:=⟨t,M,nk⟩) ho hT hi hz (Nat.eq_of_beq_eq_true b4) rfl (Nat.eq_of_beq_eq_true b5) b6 hds hdb hx hk hy hq b8 rfl hl b7 rfl
    ·cases h
   ·cases h
  ·cases h
 ·cases h
end
end
section
open Go.RowKit
theorem cur_le_e {mem s:Nat→Bool} {e:Nat} (h:∀ i,e≤i→mem i=true→s i=false):∀ {m:Nat},cur mem s m≤e
 | 0=>Nat.zero_le _
 | m+1=>by
  unfold cur
  split
  ·rename_i x
   rcases Nat.lt_or_ge m e with h5|h5
   ·omega
   ·have:=h m h5 x.1
    rw [x.2]at this;cases this
  ·exact cur_le_e h
section
variable {P:Program} {C:Cx} {σ σ':St} {G G':Gh} {a:Act} {w w':World} {ops:Array Oper} {Q:Exit→St→Prop}
inductive DT (P:Program) (C:Cx) (ops:Array Oper) (mem:List Bool) (Mc McB:List (Nat×AO)) (e0 nk0:Nat):Nat→List Oper→St→St→Prop
 | nil (k:Nat) (σ:St):DT P C ops mem Mc McB e0 nk0 k [] σ σ
 | val (k:Nat) (o:Oper) (rest:List Oper) (d:Tmp) (av:AV) (nk:Nat) (mc:List (Nat×AO)) (σ σ':St):(mc=Mc∨(mc=McB∧needs ops k ops.size e0=true))→mem.getD k false=false→o.dst=some d→Nat.blt d C.N=true→(nk=nk0∨(nk=σ.nk∧behindB ops mem k=true))→DoesV P C ops o σ.t mc nk av →
   DT P C ops mem Mc McB e0 nk0 (k+1) rest (σ.put d av) σ'→DT P C ops mem Mc McB e0 nk0 k (o::rest) σ σ'
 | mem (k:Nat) (o:Oper) (rest:List Oper) (av:AV) (M':List (Nat×AO)) (nk':Nat) (σ σ':St):mem.getD k false=true→Nat.ble σ.nk nk'=true→msSub Mc M'→(Nat.blt k e0=true→msSub McB M')→DoesS P C ops o σ av M' nk' →
   DT P C ops mem Mc McB e0 nk0 (k+1) rest ⟨ent1 o.dst true av++σ.t,M',nk'⟩ σ'→DT P C ops mem Mc McB e0 nk0 k (o::rest) σ σ'
theorem DT.data {mem:List Bool} {Mc McB:List (Nat×AO)} {e0 nk0 k:Nat} {l:List Oper} {σ σ':St} (h:DT P C ops mem Mc McB e0 nk0 k l σ σ'):∃ (avs:Nat→AV) (ms:Nat→List (Nat×AO)) (nks:Nat→Nat),ms 0=σ.M∧nks 0=σ.nk ∧
  σ'=⟨ents l.toArray avs (fun _=>true) l.length++σ.t,ms l.length,nks l.length⟩ ∧
  ∀ (j:Nat) (oj:Oper),l[j]?=some oj →
   ((mem.getD (k+j) false=false∧(∃ d,oj.dst=some d∧d<C.N)∧ms (j+1)=ms j∧nks (j+1)=nks j∧∃ nk mc,(mc=Mc∨(mc=McB∧needs ops (k+j) ops.size e0=true))∧(nk=nk0∨(nk=nks j∧behindB ops mem (k+j)=true))∧DoesV P C ops oj (ents l.toArray avs (fun _=>true) j++σ.t) mc nk (avs j)) ∨
    (mem.getD (k+j) false=true∧nks j≤nks (j+1)∧msSub Mc (ms (j+1))∧(Nat.blt (k+j) e0=true→msSub McB (ms (j+1)))∧DoesS P C ops oj ⟨ents l.toArray avs (fun _=>true) j++σ.t,ms j,nks j⟩ (avs j) (ms (j+1)) (nks (j+1)))):=by
 have key:∀ (o:Oper) (rest:List Oper) (av:AV) (avs:Nat→AV),∀ m,m≤rest.length→ents (o::rest).toArray (fun j=>if j=0 then av else avs (j-1)) (fun _=>true) (m+1)=ents rest.toArray avs (fun _=>true) m++ent1 o.dst true av:=by
  intro o rest av avs m
  induction m with
  | zero=>intro _;simp [ents]
  | succ m ihm =>
   intro hm
   rw [ents,ihm (by omega),ents]
   simp
 induction h with
 | nil k σ=>exact ⟨fun _=>.sc undef,fun _=>σ.M,fun _=>σ.nk,rfl,rfl,rfl,fun j oj h=>by simp at h⟩
 | val k o rest d av nk mc σ σ' hmc0 hm hd hN hq hdo _ ih =>
  obtain ⟨avs,ms,nks,m0,n0,e1,e2⟩:=ih
  have hent:ent1 o.dst true av=[(d,av)]:=by rw [hd];rfl
  refine ⟨fun j=>if j=0 then av else avs (j-1),fun j=>if j=0 then σ.M else ms (j-1),fun j=>if j=0 then σ.nk else nks (j-1),rfl,rfl,?_,fun j oj hj=>?_⟩
  ·rw [e1,List.length_cons,key o rest av avs _ (Nat.le_refl _),hent]
   simp [St.put]
  ·cases j with
   | zero =>
    cases hj
    exact .inl ⟨hm,⟨d,hd,of_blt hN⟩,m0,n0,nk,mc,hmc0,hq,by simpa [ents] using hdo⟩
   | succ j =>
    have hj':rest[j]?=some oj:=by simpa using hj
    have q2:=e2 j oj hj'
    rw [key o rest av avs j (by have:=(List.getElem?_eq_some_iff.1 hj').1;omega),hent]
    simpa [St.put,Nat.add_assoc,Nat.add_comm 1 j] using q2
 | mem k o rest av M' nk' σ σ' hm hn hsub hsubB hdo _ ih =>
  obtain ⟨avs,ms,nks,m0,n0,e1,e2⟩:=ih
  refine ⟨fun j=>if j=0 then av else avs (j-1),fun j=>if j=0 then σ.M else ms (j-1),fun j=>if j=0 then σ.nk else nks (j-1),rfl,rfl,?_,fun j oj hj=>?_⟩
  ·rw [e1,List.length_cons,key o rest av avs _ (Nat.le_refl _)]
   simp
  ·cases j with
   | zero =>
    cases hj
    refine .inr ⟨hm,?_,?_,?_,?_⟩
    ·show σ.nk≤nks 0
     rw [n0];exact Nat.le_of_ble_eq_true hn
    ·show msSub Mc (ms 0)
     rw [m0];exact hsub
    ·show _→msSub McB (ms 0)
     rw [m0];exact hsubB
    ·show DoesS P C ops o _ av (ms 0) (nks 0)
     rw [m0,n0];simpa [ents] using hdo
   | succ j =>
    have hj':rest[j]?=some oj:=by simpa using hj
    have q2:=e2 j oj hj'
    rw [key o rest av avs j (by have:=(List.getElem?_eq_some_iff.1 hj').1;omega)]
    simpa [Nat.add_assoc,Nat.add_comm 1 j] using q2
theorem WA.drawT2 {l:List Oper} (mem:List Bool) (Mc McB:List (Nat×AO)) (e0:Nat) (hlast:∀ i,e0 < i→i < l.length→mem.getD i false=false) (hB:Region.lexB .any l.toArray=true) (hch:chainB l.toArray mem=true) (hMc:msSub Mc σ.M) (hMcB:msSub McB σ.M) (h:DT P C l.toArray mem Mc McB e0 σ.nk 0 l σ σ') (k:Q .normal σ'):WA P C l.toArray σ Q:=by
 intro G a w ok
 obtain ⟨avs,ms,nks,m0,n0,e1,e2⟩:=h.data
 simp only [Nat.zero_add] at e2
 simp only [Region.lexB,Bool.and_eq_true] at hB
 obtain ⟨FA,FB⟩:=lex_facts (ops:=l.toArray) l.toArray.size 0 (Array.replicate l.toArray.size false) (by simp) (by simp) (fun i hi=>by simp [Array.getD_eq_getD_getElem?,hi] at hi ⊢;simp [hi]) hB.2
 have sz:l.toArray.size=l.length:=by simp
 have mconst:∀ i,i < l.length→mem.getD i false=false→ms (i+1)=ms i∧nks (i+1)=nks i:=fun i hi hf=>by
  have q:=e2 i l[i] (List.getElem?_eq_getElem hi)
  rcases q with ⟨_,_,a,b,_⟩|⟨a,_⟩
  ·exact ⟨a,b⟩
  ·rw [hf] at a;cases a
 have mmono:∀ i,i < l.length→nks i≤nks (i+1):=fun i hi=>by
  have q:=e2 i l[i] (List.getElem?_eq_getElem hi)
  rcases q with ⟨_,_,_,b,_⟩|⟨_,b,_⟩
  ·rw [b];exact Nat.le_refl _
  ·exact b
 have hnp0:C.np≤nks 0:=by rw [n0];exact ok.df.2.1
 have hnpj:∀ i,i≤l.length→C.np≤nks i:=fun i=>by
  induction i with
  | zero=>exact fun _=>hnp0
  | succ i ih=>exact fun h=>Nat.le_trans (ih (by omega)) (mmono i (by omega))
 have msub:∀ i,i≤l.length→msSub Mc (ms i):=fun i=>by
  induction i with
  | zero=>intro _;rw [m0];exact hMc
  | succ i ih =>
   intro hi
   have q:=e2 i l[i] (List.getElem?_eq_getElem (by omega))
   rcases q with ⟨_,_,a,_⟩|⟨_,_,a,_⟩
   ·rw [a];exact ih (by omega)
   ·exact a
 have msubB:∀ i,i≤l.length→i≤e0→msSub McB (ms i):=fun i=>by
  induction i with
  | zero=>intro _ _;rw [m0];exact hMcB
  | succ i ih =>
   intro hi hie
   have q:=e2 i l[i] (List.getElem?_eq_getElem (by omega))
   rcases q with ⟨_,_,a,_⟩|⟨_,_,_,a,_⟩
   ·rw [a];exact ih (by omega) (by omega)
   ·exact a (Nat.ble_eq_true_of_le hie)
 have hchj:∀ j,j < l.length→mem.getD j false=true→behindB l.toArray mem j=true:=fun j hj hmj=>by
  have h1:(!(mem.getD j false)|| behindB l.toArray mem j)=true:=List.all_eq_true.1 hch j (by simpa using hj)
  rw [hmj] at h1;exact h1
 have hbeh:∀ i j,i < j→behindB l.toArray mem j=true→mem.getD i false=true→needs l.toArray i l.toArray.size j=true:=fun i j hij hb hmi=>by
  have h1:(!(mem.getD i false)|| needs l.toArray i l.toArray.size j)=true:=List.all_eq_true.1 hb i (List.mem_range.2 hij)
  rw [hmi] at h1;exact h1
 let cu:Array Bool→Nat:=fun listed=>cur (fun i=>mem.getD i false) (fun i=>listed.getD i false) l.length
 let KS:Array Bool→St:=fun listed=>⟨ents l.toArray avs (fun i=>listed.getD i false) l.length++σ.t,ms (cu listed),nks (cu listed)⟩
 have key:∀ (fuel:Nat) (listed:Array Bool) (G:Gh) (a:Act) (w:World),listed.size=l.length→(∀ j oj,l.toArray[j]?=some oj→listed.getD j false=true→∀ e∈oj.after,Region.binds .any e=true→listed.getD e.on false=true) →
   (List.range l.length).countP (fun i=>!listed.getD i false)≤fuel→Ok C (KS listed) G a w→wpAny P .any l.toArray (Post C Q) fuel listed a w:=by
  intro fuel
  have done:∀ (listed:Array Bool) (G:Gh) (a:Act) (w:World),listed.size=l.length→Region.ready .any l.toArray listed=[]→Ok C (KS listed) G a w→Post C Q .normal a w:=by
   intro listed G a w hsz hr ok
   have hall:∀ n i,i < n→i < l.length→listed.getD i false=true:=by
    intro n
    induction n with
    | zero=>intro i h;omega
    | succ n ih =>
     intro i hi hlt
     by_cases e:i < n
     ·exact ih i e hlt
     ·have hin:i=n:=by omega
      subst hin
      cases hli:listed.getD i false with
      | true=>rfl
      | false =>
       have hoi:l.toArray[i]?=some l[i]:=by simp [hlt]
       have:i∈Region.ready .any l.toArray listed:=mem_ready.2 ⟨by
        have:listed.getD i true=listed.getD i false:=by simp [Array.getD_eq_getD_getElem?,hsz,hlt]
        rw [this];exact hli,l[i],hoi,fun e he hb=>ih e.on (FA i l[i] (Nat.zero_le _) hoi e he hb) (by have:=FA i l[i] (Nat.zero_le _) hoi e he hb;omega)⟩
       rw [hr] at this;cases this
   have hcu:ms (cu listed)=ms l.length∧nks (cu listed)=nks l.length:=by
    have hs:∀ i,i < l.length→(fun i=>mem.getD i false) i=true→(fun i=>listed.getD i false) i=decide (i < l.length):=fun i hi _=>by
     show listed.getD i false=_
     rw [hall (i+1) i (by omega) hi,decide_eq_true hi]
    have h1:=cur_at (f:=ms) (fun i hi hf=>(mconst i hi hf).1) hs l.length (Nat.le_refl _)
    have h2:=cur_at (f:=nks) (fun i hi hf=>(mconst i hi hf).2) hs l.length (Nat.le_refl _)
    rw [Nat.min_self] at h1 h2
    exact ⟨h1,h2⟩
   refine ⟨σ',G,k,ok.congr_ (fun t=>?_) (by rw [e1];exact hcu.1.symm) (by rw [e1];exact hcu.2.symm)⟩
   rw [e1]
   show look t (_++_)=look t (_++_)
   rw [look_app,look_app,ents_agree (s':=fun i=>listed.getD i false) fun i hi _=>(hall (i+1) i (by omega) hi).symm]
  induction fuel with
  | zero =>
   intro listed G a w hsz hcl hf ok
   have hr:Region.ready .any l.toArray listed=[]:=by
    apply List.eq_nil_iff_forall_not_mem.2
    intro j hj
    obtain ⟨h1,oj,h2,_⟩:=mem_ready.1 hj
    have hlt:j < l.length:=by have:=(Array.getElem?_eq_some_iff.1 h2).1;omega
    have h3:listed.getD j false=false:=by
     have:listed.getD j false=listed.getD j true:=by simp [Array.getD_eq_getD_getElem?,hsz,hlt]
     rw [this];exact h1
    have:=List.countP_eq_zero.1 (Nat.le_zero.1 hf) j (List.mem_range.2 hlt)
    simp [h3] at this
   exact ⟨hr,done listed G a w hsz hr ok⟩
  | succ fuel ih =>
   intro listed G a w hsz hcl hf ok
   refine ⟨fun hr=>done listed G a w hsz hr ok,fun j hj=>?_⟩
   obtain ⟨h1,oj,h2,h4⟩:=mem_ready.1 hj
   have hlt:j < l.length:=by have:=(Array.getElem?_eq_some_iff.1 h2).1;omega
   have h3:listed.getD j false=false:=by
    have:listed.getD j false=listed.getD j true:=by simp [Array.getD_eq_getD_getElem?,hsz,hlt]
    rw [this];exact h1
   have hlj:l[j]?=some oj:=by simpa using h2
   have hdoes:=e2 j oj hlj
   have hlook:∀ t∈oj.looksAt l.toArray,∀ i,i < l.length→(l.toArray[i]?).bind (·.dst)=some t→listed.getD i false=decide (i < j):=by
    intro t ht i hi hdi
    have hoi:l.toArray[i]?=some l[i]:=by simp [hi]
    rw [hoi] at hdi
    have hdi:l[i].dst=some t:=hdi
    rcases Nat.lt_trichotomy i j with hij|hij|hij
    ·rw [decide_eq_true hij]
     by_cases hno:∃ e,e∈oj.after∧Region.binds .any e=true∧e.on=i
     ·obtain ⟨e,he,hb,rfl⟩:=hno
      exact h4 e he hb
     ·exact absurd ht ((Oper.apart_spec (FB i j _ _ (Nat.zero_le _) hij hoi h2 fun e he hb h=>hno ⟨e,he,hb,h⟩)).1 t hdi)
    ·subst hij;rw [h3];simp
    ·rw [decide_eq_false (by omega)]
     cases hli:listed.getD i false with
     | false=>rfl
     | true =>
      by_cases hno:∃ e,e∈(l[i]).after∧Region.binds .any e=true∧e.on=j
      ·obtain ⟨e,he,hb,he2⟩:=hno
       have:=hcl i _ hoi hli e he hb
       rw [he2,h3] at this;cases this
      ·exact absurd ht ((Oper.apart_spec (FB j i _ _ (Nat.zero_le _) hij h2 hoi fun e he hb h=>hno ⟨e,he,hb,h⟩)).2.2 t hdi)
   have hents:∀ t,look t (ents l.toArray avs (fun _=>true) j)=look t (ents l.toArray avs (fun i=>decide (i < j)) l.length):=by
    intro t
    have:∀ m,j≤m→look t (ents l.toArray avs (fun i=>decide (i < j)) m)=look t (ents l.toArray avs (fun i=>decide (i < j)) j):=by
     intro m
     induction m with
     | zero=>intro h;rw [Nat.le_zero.1 h]
     | succ m ihm =>
      intro h
      by_cases e:j=m+1
      ·rw [e]
      ·rw [ents,look_app,look_ent1,if_neg (fun x=>by have:=of_decide_eq_true x.1;omega),ihm (by omega)];rfl
    rw [this l.length (by omega)]
    exact ents_agree fun i hi _=>(decide_eq_true hi).symm
   have hlooks:∀ t∈oj.looksAt l.toArray,look t (KS listed).t=look t (ents l.toArray avs (fun _=>true) j++σ.t):=fun t ht=>by
    show look t (_++_)=look t (_++_)
    rw [look_app,look_app,hents t,ents_agree fun i hi hdi=>(hlook t ht i hi hdi)]
   have hslots:∀ t,look t (ents l.toArray avs (fun i=>(listed.setIfInBounds j true).getD i false) l.length++σ.t)=look t (ent1 oj.dst true (avs j)++(KS listed).t):=by
    intro t
    by_cases et:oj.dst=some t
    ·have hR:look t (ent1 oj.dst true (avs j)++(KS listed).t)=some (avs j):=by
      rw [look_app,look_ent1,if_pos ⟨rfl,et⟩];rfl
     rw [hR,look_app,ents_top (j:=j) hlt (by rw [h2];exact et) (by simp [Array.getD_eq_getD_getElem?,hsz,hlt]) fun i hij hi hdi=>?_]
     ·rfl
     ·have hoi:l.toArray[i]?=some l[i]:=by simp [hi]
      rw [hoi] at hdi
      have hdi:l[i].dst=some t:=hdi
      have hne:j≠i:=by omega
      cases hli:listed.getD i false with
      | false=>simpa [Array.getD_eq_getD_getElem?,Array.getElem?_setIfInBounds_ne hne] using hli
      | true =>
       by_cases hno:∃ e,e∈(l[i]).after∧Region.binds .any e=true∧e.on=j
       ·obtain ⟨e,he,hb,he2⟩:=hno
        have:=hcl i _ hoi hli e he hb
        rw [he2,h3] at this;cases this
       ·exact absurd hdi ((Oper.apart_spec (FB j i _ _ (Nat.zero_le _) hij h2 hoi fun e he hb h=>hno ⟨e,he,hb,h⟩)).2.1 t et)
    ·have hR:look t (ent1 oj.dst true (avs j)++(KS listed).t)=look t (KS listed).t:=by
      rw [look_app,look_ent1,if_neg (fun x=>et x.2)];rfl
     rw [hR]
     show _=look t (_++_)
     rw [look_app,look_app]
     congr 1
     refine ents_agree fun i hi hdi=>?_
     by_cases e2:j=i
     ·subst e2
      rw [h2] at hdi
      exact absurd hdi et
     ·simp [Array.getD_eq_getD_getElem?,Array.getElem?_setIfInBounds_ne e2]
   have hset:∀ i,j≠i→(listed.setIfInBounds j true).getD i false=listed.getD i false:=fun i e=>by simp [Array.getD_eq_getD_getElem?,Array.getElem?_setIfInBounds_ne e]
   have hsetj:(listed.setIfInBounds j true).getD j false=true:=by simp [Array.getD_eq_getD_getElem?,hsz,hlt]
   have hclose:∀ i oi,l.toArray[i]?=some oi→(listed.setIfInBounds j true).getD i false=true→∀ e∈oi.after,Region.binds .any e=true→(listed.setIfInBounds j true).getD e.on false=true:=by
    intro i oi hi hli e he hb
    have mono:∀ q,listed.getD q false=true→(listed.setIfInBounds j true).getD q false=true:=fun q hq=>by
     by_cases e:j=q
     ·subst e;rw [hq] at h3;cases h3
     ·rw [hset q e];exact hq
    by_cases e2:j=i
    ·subst e2
     rw [h2] at hi;cases hi
     exact mono _ (h4 e he hb)
    ·refine mono _ (hcl i oi hi ?_ e he hb)
     rw [← hset i e2];exact hli
   have hcount:(List.range l.length).countP (fun i=>!(listed.setIfInBounds j true).getD i false)≤fuel:=by
    have:=countP_lt (p:=fun i=>!listed.getD i false) (q:=fun i=>!(listed.setIfInBounds j true).getD i false) (fun i hi=>by
       by_cases e:j=i
       ·subst e;rw [hsetj] at hi;cases hi
       ·rw [hset i e] at hi;exact hi) hlt (by simp only [h3];rfl) (by simp only [hsetj];rfl)
    omega
   unfold wpOp
   simp only [h2]
   rcases hdoes with ⟨hmf,⟨d,hd,hdN⟩,hmc,hnc,nk,mc,hmcs,hnk,hmi,hti,hdo⟩|⟨hmt,hnle,hsub,_,hgd,hdo⟩
   ·-- memory stays
    have hot:onlyT (KS listed).t (oj.looksAt l.toArray)=onlyT (ents l.toArray avs (fun _=>true) j++σ.t) (oj.looksAt l.toArray):=onlyT_congr hlooks
    have hnkle:nk≤nks (cu listed):=by
     rcases hnk with rfl|⟨rfl,hbj⟩
     ·have:=cur_ge (f:=nks) (j:=0) (s:=fun i=>listed.getD i false) (mem:=fun i=>mem.getD i false) (fun i hi hf=>(mconst i hi hf).2) mmono (fun i _ h=>by omega) l.length (Nat.le_refl _)
      rw [Nat.min_zero,n0] at this
      exact this
     ·have:=cur_ge (f:=nks) (j:=j) (s:=fun i=>listed.getD i false) (mem:=fun i=>mem.getD i false) (fun i hi hf=>(mconst i hi hf).2) mmono (fun i hi hij hmi=>needs_ready hcl h2 h4 _ (hbeh i j hij hbj hmi)) l.length (Nat.le_refl _)
      rw [show min l.length j=j by omega] at this
      exact this
    have hsubc:msSub mc (ms (cu listed)):=by
     rcases hmcs with rfl|⟨rfl,hne⟩
     ·exact msub _ (cur_le _)
     ·refine msubB _ (cur_le _) (cur_le_e fun i hi hmi=>?_)
      by_cases e:i < l.length
      ·rcases Nat.lt_or_ge e0 i with h5|h5
       ·rw [hlast i h5 e] at hmi;cases hmi
       ·obtain rfl:i=e0:=by omega
        cases hli:listed.getD i false with
        | false=>rfl
        | true =>
         have:=needs_listed hcl _ _ hne hli
         rw [h3] at this;cases this
      ·have:mem.getD i false=true:=hmi
       cases hli:listed.getD i false with
       | false=>rfl
       | true=>simp [Array.getD_eq_getD_getElem?,hsz,e] at hli
    have okO:Ok C ⟨onlyT (ents l.toArray avs (fun _=>true) j++σ.t) (oj.looksAt l.toArray),mc,nk⟩ G a w :=
     ok.few (hnp:=by rcases hnk with h|⟨h,_⟩<;>rw [h]<;>first|exact hnpj j (by omega)|(rw [← n0];exact hnp0)) (ht:=fun i av hx=>⟨by rw [← hot] at hx;exact look_onlyT hx,tsInn_at hti i av hx⟩) (hM:=fun q o hx=>⟨msSub_at hsubc q o hx,(msInn_at hmi q o hx).1,(msInn_at hmi q o hx).2⟩)
    have next:∀ (v:Value) (G':Gh) (w':World),Ok C (KS listed) G' a w'→R G' (avs j) v→Bd nk (avs j)→wpAny P .any l.toArray (Post C Q) fuel (listed.setIfInBounds j true) (a.put oj.dst v) w':=by
     intro v G' w' ok' hr hb
     have ok2:=ok'.set (d:=some d) hr (hb.mono hnkle) fun x hx=>by cases hx;exact hdN
     rw [hd]
     have hcu:cu (listed.setIfInBounds j true)=cu listed:=cur_congr fun i hi hmi=>by
      by_cases e:j=i
      ·subst e;rw [hmf] at hmi;cases hmi
      ·exact hset i e
     exact ih (listed.setIfInBounds j true) G' _ w' (by simpa using hsz) hclose hcount (ok2.congr_ (fun t=>by rw [hslots t,hd];rfl) (by show ms _=ms _;rw [hcu]) (by show nks _=nks _;rw [hcu]))
    rcases hdo with ⟨hg,hv⟩|⟨hg,hv⟩
    ·rw [if_pos (guardK_wanted okO hg)]
     exact .inl (hv G a w okO _ _ fun v G' w' hk hr hb=>next v G' w' (hk _ _ ok) hr hb)
    ·rw [if_neg (by rw [guardK_wanted okO hg];simp)]
     exact next undef G w ok (by rw [hv];exact .pu _ _ (.sc _)) (by rw [hv];exact .sc _)
   ·-- memory is written
    have hbj:=hchj j hlt hmt
    have hst:∀ i,i < l.length→mem.getD i false=true→listed.getD i false=decide (i < j):=fun i hi hmi=>by
     rcases Nat.lt_trichotomy i j with hij|hij|hij
     ·rw [decide_eq_true hij]
      exact needs_ready hcl h2 h4 _ (hbeh i j hij hbj hmi)
     ·subst hij;rw [h3];simp
     ·rw [decide_eq_false (by omega)]
      cases hli:listed.getD i false with
      | false=>rfl
      | true =>
       have:=needs_listed hcl _ _ (hbeh j i hij (hchj i hi hmi) hmt) hli
       rw [h3] at this;cases this
    have hM:ms (cu listed)=ms j∧nks (cu listed)=nks j:=by
     have h1:=cur_at (f:=ms) (fun i hi hf=>(mconst i hi hf).1) hst l.length (Nat.le_refl _)
     have h2:=cur_at (f:=nks) (fun i hi hf=>(mconst i hi hf).2) hst l.length (Nat.le_refl _)
     rw [show min l.length j=j by omega] at h1 h2
     exact ⟨h1,h2⟩
    have hst':∀ i,i < l.length→mem.getD i false=true→(listed.setIfInBounds j true).getD i false=decide (i < j+1):=fun i hi hmi=>by
     by_cases e:j=i
     ·subst e;rw [hsetj];simp
     ·rw [hset i e,hst i hi hmi]
      have:(i < j)↔(i < j+1):=by omega
      simp [this]
    have hM':ms (cu (listed.setIfInBounds j true))=ms (j+1)∧nks (cu (listed.setIfInBounds j true))=nks (j+1):=by
     have h1:=cur_at (f:=ms) (fun i hi hf=>(mconst i hi hf).1) hst' l.length (Nat.le_refl _)
     have h2:=cur_at (f:=nks) (fun i hi hf=>(mconst i hi hf).2) hst' l.length (Nat.le_refl _)
     rw [show min l.length (j+1)=j+1 by omega] at h1 h2
     exact ⟨h1,h2⟩
    rw [if_pos (by simp [Region.wanted,hgd])]
    have ok1:Ok C ⟨(KS listed).t,ms j,nks j⟩ G a w:=ok.congr_ (fun _=>rfl) (by exact hM.1.symm) (by exact hM.2.symm)
    refine .inl (hdo (KS listed).t hlooks G a w ok1 _ _ fun G' a' w' ok'=>?_)
    exact ih (listed.setIfInBounds j true) G' a' w' (by simpa using hsz) hclose hcount (ok'.congr_ hslots (by exact hM'.1) (by exact hM'.2))
 have hcu0:cu (Array.replicate l.toArray.size false)=0:=by
  have:∀ m,cur (fun i=>mem.getD i false) (fun i=>(Array.replicate l.toArray.size false).getD i false) m=0:=by
   intro m
   induction m with
   | zero=>rfl
   | succ m ih=>unfold cur;rw [if_neg (fun x=>by have:=x.2;rw [rep_getD] at this;cases this),ih]
  exact this _
 refine key _ (Array.replicate l.toArray.size false) G a _ (by simp) (fun j oj _ h=>?_) ?_ (ok.drew.congr_ (fun t=>?_) (by show ms _=_;rw [hcu0,m0]) (by show nks _=_;rw [hcu0,n0]))
 ·rw [rep_getD] at h;cases h
 ·rw [sz]
  exact Nat.le_trans List.countP_le_length (by simp)
 ·show look t (_++_)=_
  rw [look_app,ents_none fun i hi _=>?_]
  ·rfl
  ·exact rep_getD _ _
end
section
variable {B:World→View→Prop} {gl:Nat} {P:Program} {C:Cx} {σ:St} {o:Oper} {d:Tmp} {av:AV} {ops:Array Oper} {rest l:List Oper} {Q:Exit→St→Prop} {mem:List Bool} {Mc McB:List (Nat×AO)} {e0 nk0 k:Nat}
def DTK (P:Program)(C:Cx)(ops:Array Oper)(mem:List Bool)(Mc McB:List (Nat×AO))(e0 nk0 k:Nat)(l:List Oper)(σ:St)(Q:Exit→St→Prop):Prop:=∃ σ',DT P C ops mem Mc McB e0 nk0 k l σ σ'∧Q .normal σ'
theorem DTK.nil(h:Q .normal σ):DTK P C ops mem Mc McB e0 nk0 k [] σ Q:=⟨σ,.nil k σ,h⟩
theorem DTK.vl (hd:memB C.N ops mem McB k nk0 σ.t o=some (d,true)) (hn:needs ops k ops.size e0=true) (h:WV P C o ⟨onlyT σ.t (o.looksAt ops),McB,nk0⟩ av) (r:DTK P C ops mem Mc McB e0 nk0 (k+1) rest (σ.put d av) Q):DTK P C ops mem Mc McB e0 nk0 k (o::rest) σ Q:=by
 obtain ⟨a,b,c,e,f,g⟩:=memB_of hd
 obtain ⟨s,x,y⟩:=r
 exact ⟨s,.val k o rest d av nk0 McB σ s (.inr ⟨rfl,hn⟩) a b c (.inl rfl) ⟨e,f,.inl ⟨g,h⟩⟩ x,y⟩
theorem DTK.v0 (hd:memB C.N ops mem Mc k nk0 σ.t o=some (d,true)) (h:WV P C o ⟨onlyT σ.t (o.looksAt ops),Mc,nk0⟩ av) (r:DTK P C ops mem Mc McB e0 nk0 (k+1) rest (σ.put d av) Q):DTK P C ops mem Mc McB e0 nk0 k (o::rest) σ Q:=by
 obtain ⟨a,b,c,e,f,g⟩:=memB_of hd
 obtain ⟨s,x,y⟩:=r
 exact ⟨s,.val k o rest d av nk0 Mc σ s (.inl rfl) a b c (.inl rfl) ⟨e,f,.inl ⟨g,h⟩⟩ x,y⟩
theorem DTK.wr {M':List (Nat×AO)} {nk':Nat} (av:AV) (hm:mem.getD k false=true) (hn:Nat.ble σ.nk nk'=true) (hs:msSub Mc M') (hsB:Nat.blt k e0=true→msSub McB M') (h:DoesS P C ops o σ av M' nk') (r:DTK P C ops mem Mc McB e0 nk0 (k+1) rest ⟨ent1 o.dst true av++σ.t,M',nk'⟩ Q):DTK P C ops mem Mc McB e0 nk0 k (o::rest) σ Q:=by
 obtain ⟨s,x,y⟩:=r
 exact ⟨s,.mem k o rest av M' nk' σ s hm hn hs hsB h x,y⟩
theorem DTK.st (hd:memB C.N ops mem McB k nk0 σ.t o=some (d,true)) (hn:needs ops k ops.size e0=true) (h:stepV P ⟨onlyT σ.t (o.looksAt ops),McB,nk0⟩ o.op=some av) (r:DTK P C ops mem Mc McB e0 nk0 (k+1) rest (σ.put d av) Q):DTK P C ops mem Mc McB e0 nk0 k (o::rest) σ Q:=DTK.vl hd hn (stepV_of rfl h) r
theorem DTK.ixs {q:Nat} {rows:List (List AV)} {z:Int} (hd:memB C.N ops mem McB k nk0 σ.t o=some (d,true)) (hn:needs ops k ops.size e0=true) (h:ixsV P ⟨onlyT σ.t (o.looksAt ops),McB,nk0⟩ o.op=some (q,rows,z)) (h0:0≤z∧z<rows.length)
  (r:DTK P C ops mem Mc McB e0 nk0 (k+1) rest (σ.put d (.pt q z.toNat 0)) Q):DTK P C ops mem Mc McB e0 nk0 k (o::rest) σ Q:=DTK.vl hd hn (ixsV_of h h0.1 h0.2) r
theorem DTK.ldr {rows:List (List AV)} {i j:Nat} {r:List AV} {av:AV} (hd:memB C.N ops mem McB k nk0 σ.t o=some (d,true)) (hn:needs ops k ops.size e0=true) (h:ldrV P ⟨onlyT σ.t (o.looksAt ops),McB,nk0⟩ o.op=some (rows,i,j)) (hi:rows[i]?=some r) (hj:r[j]?=some av) (ho2:av.own=false)
  (K:DTK P C ops mem Mc McB e0 nk0 (k+1) rest (σ.put d av) Q):DTK P C ops mem Mc McB e0 nk0 k (o::rest) σ Q:=DTK.vl hd hn (ldrV_of h hi hj ho2) K
theorem DTK.ldQ {rows:List (List AV)} {i j hi hj:Nat} {r:List AV} {av:AV} (hd:memB C.N ops mem McB k nk0 σ.t o=some (d,true)) (hn:needs ops k ops.size e0=true) (h:ldqV P ⟨onlyT σ.t (o.looksAt ops),McB,nk0⟩ o.op=some (rows,i,j,hi,hj,av)) (e1:i=hi) (e2:j=hj) (hr:rows[i]?=some r) (hjr:j<r.length)
  (K:DTK P C ops mem Mc McB e0 nk0 (k+1) rest (σ.put d av) Q):DTK P C ops mem Mc McB e0 nk0 k (o::rest) σ Q:=DTK.vl hd hn (ldqV_O h e1 e2 hr hjr) K
theorem DTK.ar {φ:Prop} {z:Int} (hd:memB C.N ops mem McB k nk0 σ.t o=some (d,true)) (hn:needs ops k ops.size e0=true) (h:sideV ⟨onlyT σ.t (o.looksAt ops),McB,nk0⟩ o.op=some (φ,z)) (hφ:φ) (r:DTK P C ops mem Mc McB e0 nk0 (k+1) rest (σ.put d (.sc (.int .i64 z))) Q):DTK P C ops mem Mc McB e0 nk0 k (o::rest) σ Q:=DTK.vl hd hn (sideV_of h hφ) r
theorem DTK.sto {T m:Nat} {x y:Operand} {q i j:Nat} {ob ob':AO} {l:List AV} {M2:List (Nat×AO)} (hm:mem.getD k false=true) (hg:o.guard=none) (hds:o.dst=none) (ho:o.op=.store T x y) (hn:sizeB P T=some m) (hx:σ.ev x=some (.pt q i j)) (hk:look q σ.M=some ob) (hy:σ.ev y=some av)
  (hB:av.cellB=true) (hl:av.cells=l) (hlm:l.length=m) (h1:l.all AV.oneB=true) (hp:ob.put i j l=some ob') (hM:remS q σ.M=some M2) (hs:msSub Mc ((q,ob')::M2)) (hsB:Nat.blt k e0=true→msSub McB ((q,ob')::M2)) (r:DTK P C ops mem Mc McB e0 nk0 (k+1) rest ⟨σ.t,(q,ob')::M2,σ.nk⟩ Q):DTK P C ops mem Mc McB e0 nk0 k (o::rest) σ Q:=by
 have he:∀ av,ent1 o.dst true av=[]:=fun av=>by rw [hds];rfl
 refine DTK.wr (.sc undef) hm (Nat.ble_eq_true_of_le (Nat.le_refl _)) hs hsB ⟨hg,fun t H=>?_⟩ (by rw [he];exact r)
 rw [he]
 have hmem:∀ z∈[x,y],z∈o.op.operands.toList:=fun z hz=>by rw [ho];simp [Op.operands] at hz ⊢;exact hz
 rw [remS_eq hM]
 exact wo_rem (WO.store (σ:=⟨t,σ.M,σ.nk⟩) ho hds hn ((ev_agree H (hmem x (by simp))).trans hx) hk ((ev_agree H (hmem y (by simp))).trans hy) hB hl hlm h1 hp)
theorem DTK.stQ {T T' n:Nat} {x y:Operand} {q i j:Nat} {ob:AO} {rows:List (List AV)} {r0:List AV} {M2:List (Nat×AO)} (hm:mem.getD k false=true) (hg:o.guard=none) (hds:o.dst=none) (ho:o.op=.store T x y) (hn:sizeB P T=some 1) (hx:σ.ev x=some (.pt q i j)) (hk:look q σ.M=some ob) (hob:ob=.rwn T' n rows∨∃ y,ob=.rwo T' n rows i j y) (hy:σ.ev y=some av)
  (h1:av.oneB=true) (hr:rows[i]?=some r0) (hj:j<r0.length) (hM:remS q σ.M=some M2) (hs:msSub Mc ((q,.rwo T' n rows i j av)::M2)) (hsB:Nat.blt k e0=true→msSub McB ((q,.rwo T' n rows i j av)::M2)) (r:DTK P C ops mem Mc McB e0 nk0 (k+1) rest ⟨σ.t,(q,.rwo T' n rows i j av)::M2,σ.nk⟩ Q):DTK P C ops mem Mc McB e0 nk0 k (o::rest) σ Q:=by
 have he:∀ av,ent1 o.dst true av=[]:=fun av=>by rw [hds];rfl
 refine DTK.wr (.sc undef) hm (Nat.ble_eq_true_of_le (Nat.le_refl _)) hs hsB ⟨hg,fun t H=>?_⟩ (by rw [he];exact r)
 rw [he]
 have hmem:∀ z∈[x,y],z∈o.op.operands.toList:=fun z hz=>by rw [ho];simp [Op.operands] at hz ⊢;exact hz
 rw [remS_eq hM]
 exact wo_rem (WO.stQ (σ:=⟨t,σ.M,σ.nk⟩) ho hds hn ((ev_agree H (hmem x (by simp))).trans hx) hk hob ((ev_agree H (hmem y (by simp))).trans hy) h1 hr hj)
theorem DTK.of_m {M':List (Nat×AO)} {nk':Nat} (hm:mem.getD k false=true) (hd:o.dst=some d) (hn:Nat.ble σ.nk nk'=true) (hs:msSub Mc M') (hsB:Nat.blt k e0=true→msSub McB M') (h:DoesM P C ops o σ d av M' nk') (r:DTK P C ops mem Mc McB e0 nk0 (k+1) rest ⟨(d,av)::σ.t,M',nk'⟩ Q):DTK P C ops mem Mc McB e0 nk0 k (o::rest) σ Q:=by
 have hent:ent1 o.dst true av=[(d,av)]:=by rw [hd];rfl
 exact DTK.wr av hm hn hs hsB ⟨h.1,fun t H=>by rw [hent];exact h.2 t H⟩ (by rw [hent];exact r)
theorem DTK.bd {T m:Nat} {parts:Array (Nat×Operand)} {ob:AO} (hd:wrB mem C.N k o=some d) (ho:o.op=.buildSlice T m parts) (h:buildE P σ T m parts.toList=some ob) (hs:msSub Mc ((σ.nk,ob)::σ.M)) (hsB:Nat.blt k e0=true→msSub McB ((σ.nk,ob)::σ.M)) (r:DTK P C ops mem Mc McB e0 nk0 (k+1) rest ⟨(d,.sl σ.nk)::σ.t,(σ.nk,ob)::σ.M,σ.nk+1⟩ Q):DTK P C ops mem Mc McB e0 nk0 k (o::rest) σ Q:=by
 obtain ⟨a,b,c,e⟩:=wrB_of hd
 unfold buildE at h
 split at h
 ·rename_i el hT
  split at h
  ·rename_i n z avs hn hz hx
   cases hb:numB 0 parts.toList && Nat.beq parts.toList.length m && Nat.ble (m*n) 16777216 && Nat.ble m 16777216 && rowsB n avs with
   | false=>rw [hb] at h;cases h
   | true =>
    rw [hb] at h
    simp only [Bool.and_eq_true] at hb
    cases h
    exact DTK.of_m a b (Nat.ble_eq_true_of_le (Nat.le_succ _)) hs hsB (DoesM.build c ho hT hn hz hb.1.1.1.1 (Nat.eq_of_beq_eq_true hb.1.1.1.2) hb.1.1.2 hb.1.2 b e hx hb.2 rfl rfl rfl rfl) r
  ·cases h
 ·cases h
theorem DTK.ap {x:AppD} (hd:wrB mem C.N k o=some d) (h:appV P σ o.op=some x) (hl:x.a.length+x.b.length≤1000000000) (hs:msSub Mc ((σ.nk,.row x.T x.n (x.a++x.b))::rem x.k σ.M)) (hsB:Nat.blt k e0=true→msSub McB ((σ.nk,.row x.T x.n (x.a++x.b))::rem x.k σ.M)) (r:DTK P C ops mem Mc McB e0 nk0 (k+1) rest ⟨(d,.sl σ.nk)::σ.t,(σ.nk,.row x.T x.n (x.a++x.b))::rem x.k σ.M,σ.nk+1⟩ Q):DTK P C ops mem Mc McB e0 nk0 k (o::rest) σ Q:=by
 obtain ⟨a,b,c,e⟩:=wrB_of hd
 unfold appV at h
 split at h
 ·rename_i x y T T' ho
  split at h
  ·rename_i el q av2 hT hx hy
   split at h
   ·rename_i i e' n rows hi hk
    split at h
    ·rename_i z rows2 hz hs2
     cases hb:Nat.beq T T' && Nat.beq el e' && Nat.beq i.size n && Nat.beq z.cells.size n && Nat.blt 0 n && Nat.ble i.bytes 100000 with
     | false=>rw [hb] at h;cases h
     | true =>
      rw [hb] at h
      simp only [Bool.and_eq_true] at hb
      cases h
      obtain ⟨⟨⟨⟨⟨b1,b2⟩,b3⟩,b4⟩,b5⟩,b6⟩:=hb
      obtain rfl:=Nat.eq_of_beq_eq_true b1
      obtain rfl:=Nat.eq_of_beq_eq_true b2
      exact DTK.of_m a b (Nat.ble_eq_true_of_le (Nat.le_succ _)) hs hsB (DoesM.append c ho hT hi hz (Nat.eq_of_beq_eq_true b3) rfl (Nat.eq_of_beq_eq_true b4) b5 b e hx hk hy hs2 rfl hl b6 rfl rfl rfl) r
    ·cases h
   ·cases h
  ·cases h
 ·cases h
def lastB(mem:List Bool)(n e0:Nat):Bool:=(List.range n).all fun i=>!Nat.blt e0 i|| !mem.getD i false
theorem WA.dt (mem:List Bool) (ms msB:List Nat) (e0:Nat) (hl:lastB mem l.length e0=true) (hB:Region.lexB .any l.toArray=true) (hch:chainB l.toArray mem=true) (hMc:msSub (onlyM σ.M ms) σ.M) (hMcB:msSub (onlyM σ.M msB) σ.M)
  (h:DTK P C l.toArray mem (onlyM σ.M ms) (onlyM σ.M msB) e0 σ.nk 0 l σ Q):WA P C l.toArray σ Q :=
 let ⟨_,a,b⟩:=h
 WA.drawT2 mem (onlyM σ.M ms) (onlyM σ.M msB) e0 (fun i h1 h2=>by
  have:=List.all_eq_true.1 hl i (List.mem_range.2 h2)
  simp only [Bool.or_eq_true,Bool.not_eq_true'] at this
  rcases this with h|h
  ·rw [show Nat.blt e0 i=true from Nat.ble_eq_true_of_le h1] at h;cases h
  ·exact h) hB hch hMc hMcB a b
end
end
section
open Go.RowKit
structure StpOk(p:Pce)(k:Nat)(x:Stp):Prop where
 crs:1≤x.1∧x.1≤p.cs.length
 c14:x.1≤14
 fret:0≤x.2.1∧x.2.1≤fretsOf p.cs x.1
 f18:x.2.1≤18
 hold:0≤x.2.2.2.2∧x.2.2.2.2≤longestN p.evs k x.1
 h0:0<x.2.2.2.2→x.2.1≠0
theorem stpOk_of {p:Pce} {i:Nat} {last:Int} {s:Stp} (hI:insE p.cs p.st=0)(h:stopE p i s last=0):StpOk p i s∧last<s.1:=by
 have hb:=stopE_bd hI h
 unfold stopE at h
 by_cases h1:s.1<1∨(p.cs.length:Int)<s.1
 ·rw [if_pos h1]at h;cases h
 ·rw [if_neg h1]at h
  by_cases h2:s.2.1<0∨fretsOf p.cs s.1<s.2.1
  ·rw [if_pos h2]at h;cases h
  ·rw [if_neg h2]at h
   by_cases h3:s.1≤last
   ·rw [if_pos h3]at h;cases h
   ·rw [if_neg h3]at h
    by_cases h4:(s.2.2.1<0∨3<s.2.2.1)∨(s.2.2.2.1<0∨4<s.2.2.2.1)
    ·rw [if_pos h4]at h;cases h
    ·rw [if_neg h4]at h
     by_cases h5:(s.2.2.2.2<0∨(longestN p.evs i s.1:Int)<s.2.2.2.2)∨(0<s.2.2.2.2∧s.2.1=0)
     ·rw [if_pos h5]at h;cases h
     ·exact⟨⟨by omega,by omega,by omega,by omega,by omega,by omega⟩,by omega⟩
theorem stopsE_ok {p:Pce} {i:Nat} (hI:insE p.cs p.st=0):∀ {l:List Stp} {last:Int},stopsE p i last l=0→(∀ x∈l,StpOk p i x∧last<x.1)∧l.Pairwise fun x y=>x.1<y.1:=by
 intro l
 induction l with
 | nil=>intro _ _;exact⟨fun x hx=>(by cases hx),.nil⟩
 | cons x r ih =>
  intro last h
  unfold stopsE at h
  by_cases h1:stopE p i x last≠0
  ·rw [if_pos h1] at h;exact absurd h h1
  ·rw [if_neg h1] at h
   have hx:=stpOk_of hI (by simpa using h1:stopE p i x last=0)
   obtain⟨q1,q2⟩:=ih h
   refine⟨fun y hy=>?_,.cons (fun y hy=>(q1 y hy).2) q2⟩
   rcases List.mem_cons.1 hy with rfl|hy
   ·exact hx
   ·exact⟨(q1 y hy).1,by have:=(q1 y hy).2;omega⟩
structure EvOk(p:Pce)(k:Nat)(e:Ev):Prop where
 sg:sgOk e.val e.dot e.three=true
 first:¬ ((k:Int)=0∧e.val=0)
 tie:e.tie=true→e.stops=[]∧0<k
 stops:∀ x∈e.stops,StpOk p k x
 asc:e.stops.Pairwise fun x y=>x.1<y.1
theorem evOk_of {p:Pce} (h:pceE p=0) {k:Nat} (hk:k<p.evs.length):EvOk p k p.evs[k]:=by
 obtain ⟨h1,h2,h3⟩:=pceE_zero h
 obtain ⟨a,b,c,d⟩:=evE_zero (h3 k hk)
 obtain ⟨q1,q2⟩:=stopsE_ok h1 d
 refine ⟨a,b,fun ht=>?_,fun x hx=>(q1 x hx).1,q2⟩
 have:¬ (0<p.evs[k].stops.length∨(k:Int)=0):=fun hh=>c ⟨ht,hh⟩
 exact ⟨List.eq_nil_of_length_eq_zero (by omega),by omega⟩
theorem runL_le'(c:Int):∀ (n:Nat)(l:List Ev),runL c n l≤l.length:=by
 intro n
 induction n with
 | zero=>intro l;unfold runL;first|exact Nat.zero_le _|(split<;>exact Nat.zero_le _)
 | succ n ih =>
  intro l
  cases l with
  | nil=>simp [runL]
  | cons e r =>
   unfold runL
   split
   ·exact Nat.zero_le _
   ·have:=ih r;simp;omega
theorem longestN_end {evs:List Ev} {i:Nat} (h:i<evs.length)(c:Int):i+longestN evs i c+1≤evs.length:=by
 unfold longestN
 rw [if_neg (by omega)]
 have:=runL_le' c 15 (evs.drop ((i:Int).toNat+1))
 simp only [Int.toNat_natCast,List.length_drop]at this ⊢
 omega
end
section
open Go.RowKit
section
variable {P:Program} {C:Cx} {σ:St}
def ldaV (P:Program)(σ:St):Op→Option (TypeId×List (List AV)×Nat×Nat)
 | .load T x =>
  match σ.ev x with
  | some (.pt k i j) =>
   match look k σ.M with
   | some (.row _ _ rows)=>some (T,rows,i,j)
   | some (.rwn _ _ rows)=>some (T,rows,i,j)
   | _=>none
  | _=>none
 | _=>none
theorem ldaV_of {o:Oper} {T:TypeId} {rows:List (List AV)} {i j:Nat} {r:List AV} {av:AV} (h:ldaV P σ o.op=some (T,rows,i,j))(hi:rows[i]?=some r)(ht:takeO P T (r.drop j)=some av):WV P C o σ av:=by
 unfold ldaV at h
 split at h
 ·rename_i T' x ho
  split at h
  ·rename_i k i' j' hx
   split at h
   ·rename_i T2 n rows' hk
    cases h
    have hf:(AO.row T2 n rows).from_ i j=some (r.drop j):=by simp [AO.from_,hi]
    exact loadV_of ho hx (by simp only [loadV,hk,hf];exact ht)
   ·rename_i T2 n rows' hk
    cases h
    have hf:(AO.rwn T2 n rows).from_ i j=some (r.drop j):=by simp [AO.from_,hi]
    exact loadV_of ho hx (by simp only [loadV,hk,hf];exact ht)
   ·cases h
  ·cases h
 ·cases h
variable {ops:Array Oper} {o:Oper} {rest:List Oper} {d:Tmp} {Q:Exit→St→Prop}
theorem WL.lda {T:TypeId} {rows:List (List AV)} {i j:Nat} {r:List AV} {av:AV} (hd:dstB C.N o=some d)(h:ldaV P σ o.op=some (T,rows,i,j))(hi:rows[i]?=some r)(ht:takeO P T (r.drop j)=some av)(k:WL P C ops rest (σ.put d av) Q):WL P C ops (o::rest) σ Q:=WL.vl hd (ldaV_of h hi ht) k
theorem DK.lda {T:TypeId} {rows:List (List AV)} {i j:Nat} {r:List AV} {av:AV} (hd:dstD C.N ops σ o=some d)(h:ldaV P (σ.only (o.looksAt ops)) o.op=some (T,rows,i,j))(hi:rows[i]?=some r)(ht:takeO P T (r.drop j)=some av)(k:DK P C ops rest (σ.put d av) Q):DK P C ops (o::rest) σ Q:=DK.vl hd (ldaV_of h hi ht) k
end
end
section
open Go.RowKit
def sp(t:List UInt8):List UInt8:=32::t
def stT (s:Int)(L:Int→Nat)(x:Stp):List UInt8:=cellS s x.1 x.2.1 x.2.2.1 x.2.2.2.1 x.2.2.2.2 (L x.1)
def stOn(l:List Stp)(c:Int):Option Stp:=l.find? fun x=>x.1 == c
def stF(s:Int)(L:Int→Nat)(l:List Stp)(c:Int):List UInt8 :=
 match stOn l c with
 | some x=>stT s L x
 | none=>[45]
def asc:Int→List Stp→Prop
 | _,[]=>True
 | m,x::r=>m<x.1∧asc x.1 r
theorem asc_of {p:Pce} {i:Int}:∀ {l:List Stp} {last:Int},stopsE p i last l=0→asc last l
 | [],_,_=>trivial
 | x::r,last,h=>by
  unfold stopsE at h
  by_cases h1:stopE p i x last≠0
  ·rw [if_pos h1]at h;exact absurd h h1
  ·rw [if_neg h1]at h
   refine⟨?_,asc_of h⟩
   by_cases h2:last<x.1
   ·exact h2
   ·exfalso;apply h1
    unfold stopE
    split
    ·decide
    ·split
     ·decide
     ·rw [if_pos (by omega)];decide
theorem asc_lt:∀ {l:List Stp} {m:Int},asc m l→∀ x∈l,m<x.1
 | y::r,m,h,x,hx=>by
  rcases List.mem_cons.1 hx with rfl|hx
  ·exact h.1
  ·have:=asc_lt h.2 x hx;have:=h.1;omega
theorem asc_take {l:List Stp}:∀ {m:Int} (k:Nat)(h:k<l.length),asc m l→∀ x∈l.take k,x.1<l[k].1:=by
 induction l with
 | nil=>intro m k h;simp at h
 | cons y r ih =>
  intro m k h ha x hx
  cases k with
  | zero=>simp at hx
  | succ k =>
   simp only [List.take_succ_cons,List.mem_cons] at hx
   rcases hx with rfl|hx
   ·exact asc_lt ha.2 _ (by simp)
   ·simpa using ih k (by simpa using h) ha.2 x hx
theorem stOn_none {l:List Stp} {c:Int} (h:∀ x∈l,x.1≠c):stOn l c=none:=by
 unfold stOn
 rw [List.find?_eq_none]
 intro x hx
 simpa using h x hx
theorem stOn_snoc (l:List Stp)(x:Stp)(c:Int)(h:∀ y∈l,y.1<x.1):stOn (l++[x]) c=if c=x.1 then some x else stOn l c:=by
 by_cases e:c=x.1
 ·rw [if_pos e]
  have h0:stOn l c=none:=stOn_none fun y hy=>by have:=h y hy;omega
  unfold stOn at h0 ⊢
  rw [List.find?_append,h0]
  simp [e]
 ·rw [if_neg e]
  unfold stOn
  rw [List.find?_append]
  have:[x].find? (fun y=>y.1 == c)=none:=by simp;omega
  rw [this,Option.or_none]
theorem stF_snoc (s:Int)(L:Int→Nat)(l:List Stp)(x:Stp)(c:Int)(h:∀ y∈l,y.1<x.1):stF s L (l++[x]) c=if c=x.1 then stT s L x else stF s L l c:=by
 unfold stF
 rw [stOn_snoc l x c h]
 by_cases e:c=x.1
 ·rw [if_pos e,if_pos e]
 ·rw [if_neg e,if_neg e]
def cAt(s:Int)(n j:Nat):Int:=if s=2 then(n:Int)-j else(j:Int)+1
def staffL (s:Int)(L:Int→Nat)(n:Nat)(l:List Stp):List (List UInt8):=(List.range n).map fun j=>stF s L l (cAt s n j)
theorem staffL_nil(s:Int)(L:Int→Nat)(n:Nat):staffL s L n []=List.replicate n [45]:=by
 unfold staffL
 apply List.ext_getElem
 ·simp
 ·intro i h1 h2;simp [stF,stOn]
theorem staffL_snoc (s:Int)(L:Int→Nat)(n:Nat)(l:List Stp)(x:Stp)(hs:s≠4)(h:∀ y∈l,y.1<x.1)(h1:1≤x.1)(hn:x.1≤n):staffL s L n (l++[x])=(staffL s L n l).set (lineV s x.1 n-1).toNat (stT s L x):=by
 apply List.ext_getElem
 ·simp [staffL]
 ·intro j h2 h3
  have hj:j<n:=by simpa [staffL]using h2
  rw [List.getElem_set]
  simp only [staffL,List.getElem_map,List.getElem_range]
  rw [stF_snoc s L l x _ h]
  have e:cAt s n j=x.1↔(lineV s x.1 n-1).toNat=j:=by
   unfold cAt lineV
   rw [if_neg hs]
   by_cases e2:s=2
   ·rw [if_pos e2,if_pos e2];omega
   ·rw [if_neg e2,if_neg e2];omega
  by_cases e3:cAt s n j=x.1
  ·rw [if_pos e3,if_pos (e.1 e3)]
  ·rw [if_neg e3,if_neg (fun q=>e3 (e.2 q))]
def outL (s:Int)(L:Int→Nat)(n:Nat)(l:List Stp):List (List UInt8) :=
 if s=2 then ((l.filter fun x=>decide ((n:Int)<x.1)).map (stT s L)).reverse else (l.filter fun x=>decide ((n:Int)<x.1)).map (stT s L)
theorem outL_in (s:Int)(L:Int→Nat)(n:Nat)(l:List Stp)(x:Stp)(h:x.1≤n):outL s L n (l++[x])=outL s L n l:=by
 unfold outL
 have:[x].filter (fun x=>decide ((n:Int)<x.1))=[]:=by simp;omega
 rw [List.filter_append,this,List.append_nil]
theorem outL_out (s:Int)(L:Int→Nat)(n:Nat)(l:List Stp)(x:Stp)(h:¬ x.1≤n):outL s L n (l++[x])=if s=2 then stT s L x::outL s L n l else outL s L n l++[stT s L x]:=by
 unfold outL
 have:[x].filter (fun x=>decide ((n:Int)<x.1))=[x]:=by simp;omega
 rw [List.filter_append,this]
 by_cases e:s=2
 ·rw [if_pos e,if_pos e,if_pos e];simp
 ·rw [if_neg e,if_neg e,if_neg e];simp
theorem outL_len(s:Int)(L:Int→Nat)(n:Nat)(l:List Stp):(outL s L n l).length≤l.length:=by
 unfold outL
 split
 ·simp;exact List.length_filter_le _ _
 ·simp;exact List.length_filter_le _ _
def headW (s:Int)(e:Ev):List (List UInt8):=if e.bar=true then [[124],tW e.val (sgI e.dot e.three)]else [tW e.val (sgI e.dot e.three)]
def staffN(s:Int)(p:Pce):Nat:=if s=4 then 0 else min p.cs.length 6
def colW (s:Int) (p:Pce) (i:Int) (e:Ev):List (List UInt8) :=
 headW s e++(if e.tie=true then [[126]] else if e.stops.length=0 then [[37]] else
  if s=2 then outL s (fun c=>longestN p.evs i c) (staffN s p) e.stops++staffL s (fun c=>longestN p.evs i c) (staffN s p) e.stops
  else staffL s (fun c=>longestN p.evs i c) (staffN s p) e.stops++outL s (fun c=>longestN p.evs i c) (staffN s p) e.stops)
def spW (l:List (List UInt8)):List UInt8:=l.flatMap sp
def joinW:List (List UInt8)→List UInt8
 | []=>[]
 | x::r=>x++spW r
theorem joinW_lib (l:List (List UInt8)):Lib.join l [32]=joinW l:=by
 cases l with
 | nil=>rfl
 | cons x r =>
  rw [Lib.join_cons]
  show x++Lib.joinTail [32] r=x++r.flatMap sp
  unfold Lib.joinTail
  rw [List.flatMap_def];rfl
def colS (s:Int)(p:Pce)(i:Int)(e:Ev):List UInt8:=joinW (colW s p i e)
theorem stOn_eq {l:List Stp} {c:Int} {x:Stp} (h:stOn l c=some x):x∈l∧x.1=c:=by
 unfold stOn at h
 exact⟨List.mem_of_find?_eq_some h,by simpa using List.find?_some h⟩
theorem cellS_len(s c f r g h L:Int)(hs:1≤s∧s≤4)(hc:1≤c∧c≤14)(hf:0≤f∧f≤18):(cellS s c f r g h L).length≤12:=by
 unfold cellS
 have h1:=(pS_len s c f hs hc hf).1
 have h2:=rR_len s r
 have h3:=rG_len s g
 have h4:=pH_len s h L
 simp only [List.length_append];omega
theorem spW_len {n:Nat}:∀ {l:List (List UInt8)},(∀ t∈l,t.length≤n)→(spW l).length≤(n+1)*l.length
 | [],_=>by simp [spW]
 | x::r,h=>by
  have h1:=spW_len (l:=r) fun t ht=>h t (by simp [ht])
  have h2:=h x (by simp)
  unfold spW at h1 ⊢
  rw [List.flatMap_cons,List.length_append,List.length_cons,Nat.mul_succ]
  have:(sp x).length=x.length+1:=by simp [sp]
  omega
end
section
open Go.RowKit
theorem big_any (M:PM) (p:Pce) (w:World) (hP:PcAt w w.heap.size M p):Calls Tryz.prog 49 #[pcValue M p] w (Ret (.bool (bigB p)) w):=by
 obtain ⟨A1,A2,A3,c1,c2,c3⟩:=M
 obtain ⟨cs,st,evs⟩:=p
 unfold pcValue
 simp only at *
 have HP:=Lib.hid hP.2.1
 obtain ⟨n1,hn1⟩:∃ n,cs.length=n:=⟨_,rfl⟩
 obtain ⟨n2,hn2⟩:∃ n,st.length=n:=⟨_,rfl⟩
 obtain ⟨n3,hn3⟩:∃ n,evs.length=n:=⟨_,rfl⟩
 have HN3:=Lib.hid hn3
 have hB:bigB ⟨cs,st,evs⟩=(decide (64 < n1)|| (decide (64 < n2)|| (decide (420 < n3)|| evs.any fun e=>decide (20 < e.stops.length)))):=by unfold bigB;rw [hn1,hn2,hn3]
 rw [hB,hn1,hn2,hn3]
 clear hB hn1 hn2 hn3 hP
 by_cases b1:64 < n1
 ·have e:(decide (64 < n1)|| (decide (64 < n2)|| (decide (420 < n3)|| evs.any fun e=>decide (20 < e.stops.length))))=true:=by simp [b1]
  rw [e]
  clear e
  go_enter Tryz.func49,Tryz.ntmps49
  go_wp2
  go_ret
  exact Ret.mk' rfl zqb
 ·by_cases b2:64 < n2
  ·have e:(decide (64 < n1)|| (decide (64 < n2)|| (decide (420 < n3)|| evs.any fun e=>decide (20 < e.stops.length))))=true:=by simp [b2]
   rw [e]
   clear e
   go_enter Tryz.func49,Tryz.ntmps49
   go_wp2
   go_ret
   exact Ret.mk' rfl zqb
  ·by_cases b3:420 < n3
   ·have e:(decide (64 < n1)|| (decide (64 < n2)|| (decide (420 < n3)|| evs.any fun e=>decide (20 < e.stops.length))))=true:=by simp [b3]
    rw [e]
    clear e
    go_enter Tryz.func49,Tryz.ntmps49
    go_wp2
    go_ret
    exact Ret.mk' rfl zqb
   ·have e:(decide (64 < n1)|| (decide (64 < n2)|| (decide (420 < n3)|| evs.any fun e=>decide (20 < e.stops.length))))=evs.any fun e=>decide (20 < e.stops.length):=by simp [b1,b2,b3]
    rw [e]
    clear e
    obtain ⟨V,hV⟩:∃ V,(evs.any fun e=>decide (20 < e.stops.length))=V:=⟨_,rfl⟩
    rw [hV]
    have HV:=Lib.hid hV
    clear hV
    go_enter Tryz.func49,Tryz.ntmps49
    go_wp2
    go_loop [3] (fun i=>∃ k:Nat,k≤n3∧i=.int .i64 k∧V=(evs.drop k).any fun e=>decide (20 < e.stops.length)) (fun i=>n3 - (intOf i).toNat)
    case atStart=>exact ⟨0,Nat.zero_le _,rfl,HV.out.symm⟩
    case round =>
     obtain ⟨k,hk,rfl,hs⟩:=hrel
     have HS:=Lib.hid hs
     clear hs
     by_cases hlt:k < n3
     ·have hk2:k < evs.length:=by have:=HN3.out;omega
      obtain ⟨ad,S,c,hA,hb,_,_,_,_,_,hc,_⟩:=HP.out.ev hk2
      subst hA
      have hs2:=HS.out.trans (any_at hk2)
      generalize evs[k]=e at hc hs2
      have hc2:∀ o:Obj,(w.alloc o).cell? ⟨(ad.add (k*6)).block,(ad.add (k*6)).off+5,none⟩=some (.slice S e.stops.length c):=fun o=>by
       rw [World.cell?_alloc_lt _ _ _ (by rw [block_of_add];omega),hc]
      clear hc
      generalize e.stops.length=n at *
      by_cases hb1:20 < n
      ·have HE:=Lib.hid (hs2.trans (show _=true by simp [hb1]))
       clear hs2
       go_wp2
       go_ret
       exact Ret.mk' (by rw [HE.out];rfl) zqb
      ·have HS3:=Lib.hid (hs2.trans (show _=(evs.drop (k+1)).any fun e=>decide (20 < e.stops.length) by simp [hb1]))
       clear hs2
       go_wp2
       go_round
       case rel=>exact ⟨k+1,by omega,by go_num,HS3.out⟩
       case measure=>simp [intOf];omega
     ·have HE:=Lib.hid (HS.out.trans (show ((evs.drop k).any fun e=>decide (20 < e.stops.length))=false from by rw [List.drop_eq_nil_of_le (by have:=HN3.out;omega)];rfl))
      go_wp2
      go_ret
      exact Ret.mk' (by rw [HE.out];rfl) zqb
end
section
open Go.RowKit
theorem pcOk_of2 {p:Pce} (h:bigB p=false):PcOk p:=by
 unfold bigB at h
 simp only [Bool.or_eq_false_iff,decide_eq_false_iff_not,List.any_eq_false]at h
 obtain⟨h1,h2,h3,h4⟩:=h
 refine⟨by omega,by omega,by omega,fun k hk=>?_⟩
 have:=h4 _ (List.getElem_mem hk)
 simp at this
 exact this
theorem big_FS (p:Pce):Ctr Tryz.prog 49 [ePce p] (.sc (.bool (bigB p))) :=
 Ctr.of_pc (pre:=[]) (post:=[]) rfl rfl (fun _=>.sc _) fun w M hM=>big_any M p w hM
end
section
open Go.RowKit
section
variable {P:Program} {C:Cx} {σ σ':St} {G G':Gh} {a:Act} {w w':World} {o:Oper} {d:Tmp}
theorem WV.bdF0 {T e n m:Nat} {z:Value} {parts:Array (Nat×Operand)} {xs:List Operand} {avs:List AV} {rows:List (List AV)} (ho:o.op=.buildSlice T m parts) (hT:P.underlying T=some (.slice e)) (hn:sizeB P e=some n) (hz:(P.info? e).bind (·.zero)=some z)
  (hp:parts.toList=number 0 xs) (hm:xs.length=m) (hb:Nat.ble (m*n) 16777216=true) (hb1:Nat.ble m 16777216=true) (hx:σ.evs xs=some avs) (hck:rowsB n avs=true) (hr:avs.map AV.cells=rows) :
  WV P C o σ (.ls n rows):=by
 intro G a w ok N Q' hN
 obtain ⟨e1,e2⟩:=ok.evl hx
 have hck':∀ av∈avs,av.cellB=true∧av.cells.length=n∧av.cells.all AV.oneB=true∧av.cells.all AV.pu0=true:=fun av hav=>by
  have:=List.all_eq_true.1 hck av hav
  simp only [Bool.and_eq_true] at this
  exact ⟨this.1.1.1,Nat.eq_of_beq_eq_true this.1.1.2,this.1.2,this.2⟩
 have hv:∀ v∈xs.map a.eval,v.cells.size=n:=fun v hv=>by
  obtain ⟨i,hi,rfl⟩:=List.getElem_of_mem hv
  have hi2:i<avs.length:=by omega
  obtain ⟨c1,c2,_⟩:=hck' _ (List.getElem_mem hi2)
  rw [(cells_of (e2 i _ _ (List.getElem?_eq_getElem hi2) (List.getElem?_eq_getElem hi)) c1).1,c2]
 have hlm:(xs.map a.eval).length=m:=by simpa using hm
 have hrun:=run_buildS (P:=P) (T:=T) (e:=e) (n:=n) (m:=m) (vs:=xs.map a.eval) (parts:=parts.map fun (i,x)=>(i,a.eval x)) hT hn hz (by
  have:=number_map a.eval 0 xs
  rw [← this,← hp];simp) hlm hv (Nat.le_of_ble_eq_true hb) w
 have hvs:((xs.map a.eval).map fun v=>v.cells.toList).length=rows.length:=by rw [← hr];simp only [List.length_map] at e1 ⊢;exact e1
 have hown:=own_built w e n m ((xs.map a.eval).map fun v=>v.cells.toList).flatten.toArray (by unfold maxLen;have:=Nat.le_of_ble_eq_true hb1;omega) (by
  rw [List.size_toArray,flatten_len (size:=n) (fun r hr=>by obtain ⟨v,hv',rfl⟩:=List.mem_map.1 hr;simpa using hv v hv')]
  simp [hm])
 have honeR:∀ r∈(xs.map a.eval).map fun v=>v.cells.toList,∀ u∈r,u.oneCell'=true :=
  (fun r hr' u hu=>by
   obtain ⟨v,hv',rfl⟩:=List.mem_map.1 hr'
   obtain ⟨i,hi,rfl⟩:=List.getElem_of_mem hv'
   have hi2:i<avs.length:=by omega
   obtain ⟨c1,c2,c3,_⟩:=hck' _ (List.getElem_mem hi2)
   obtain ⟨d1,d2⟩:=cells_of (e2 i _ _ (List.getElem?_eq_getElem hi2) (List.getElem?_eq_getElem hi)) c1
   obtain ⟨j,hj,rfl⟩:=List.getElem_of_mem hu
   have hj2:j<(avs[i]).cells.length:=by rw [← d1];simpa using hj
   exact oneB_of (d2 j _ _ (List.getElem?_eq_getElem hj2) (by simp at hj;simp [hj])) (List.all_eq_true.1 c3 _ (List.getElem_mem hj2)))
 have hrel:∀ (i:Nat) r r',rows[i]?=some r→((xs.map a.eval).map fun v=>v.cells.toList)[i]?=some r'→RL G.F r r' :=
  (fun i r r' h1 h2=>by
   rw [← hr,List.getElem?_map] at h1
   rw [List.getElem?_map] at h2
   cases q1:avs[i]? with
   | none=>simp [q1] at h1
   | some av =>
    cases q2:(xs.map a.eval)[i]? with
    | none=>simp [q2] at h2
    | some v =>
     simp [q1] at h1
     simp only [q2,Option.map_some,Option.some.injEq] at h2
     subst h1 h2
     obtain ⟨c1,c2,_,c4⟩:=hck' av (List.mem_of_getElem? q1)
     obtain ⟨d1,d2⟩:=cells_of (e2 i av v q1 q2) c1
     exact ⟨by simpa using d1,fun j x u hx hu=>(pu0_bd (List.all_eq_true.1 c4 x (List.mem_of_getElem? hx)) 0).rp (d2 j x u hx (by simpa using hu))⟩)
 have hsl:(.slice (some ⟨w.heap.size,0,none⟩) m m:Value).ownBlock=some w.heap.size:=rfl
 obtain ⟨w',hw'⟩:∃ w',w.alloc (.cells ((xs.map a.eval).map fun v=>v.cells.toList).flatten.toArray e)=w':=⟨_,rfl⟩
 have hbel:Below w.heap.size w w':=by rw [← hw'];exact (Below.refl _ _).alloc (Nat.le_refl _) _
 have hRow:RowIs w' e n rows (.slice (some ⟨w.heap.size,0,none⟩) m m) (fun x=>x=w.heap.size) (XP G.F):=by
  refine ⟨fun r hr'=>by rw [← hr] at hr';obtain ⟨av,hav,rfl⟩:=List.mem_map.1 hr';exact (hck' av hav).2.1,(xs.map a.eval).map fun v=>v.cells.toList,fun _ _ _=>False,?_,hvs,honeR,fun g hg=>by rw [hsl] at hg;exact (Option.some.inj hg).symm,
    fun _ _ _ h=>h.elim,fun _ _ _ _ _ h=>h.elim,fun i r r' h1 h2=>(hrel i r r' h1 h2).1,fun i r r' j av u h1 h2 h3 h4=>(hrel i r r' h1 h2).2 j av u h3 h4⟩
  have:((xs.map a.eval).map fun v=>v.cells.toList).length=m:=by simpa using hlm
  rw [this,← hw']
  exact own_weaken (by simpa using hown) (Nat.zero_le _)
 have hle:View.le G.F fun p=>if p.block=w.heap.size then w'.cell? p else G.F p:=fun p u h=>by
  have:=cell_block (ok.fw p u h)
  show (if p.block=w.heap.size then w'.cell? p else G.F p)=some u
  rw [if_neg (by omega)];exact h
 have hRP:=RowIs.fix (F':=fun p=>if p.block=w.heap.size then w'.cell? p else G.F p) id hRow (fun p hp=>if_pos hp) fun i r j av u ψ _ _ _ x=>RP.mono hle x
 have hRP:RP (fun p=>if p.block=w.heap.size then w'.cell? p else G.F p) (.ls n rows) (.slice (some ⟨w.heap.size,0,none⟩) m m):=by simpa using hRP
 unfold Oper.wp execOp
 simp only [ho,Sem.run_bind,hrun,Result.andThen_ok,Sem.run_pure,Oper.upon,hw']
 refine hN _ { G with F:=fun p=>if p.block=w.heap.size then w'.cell? p else G.F p } w' (fun σ'' a'' ok''=>ok''.called hbel hle (fun p u h=>?_) (fun p u h=>?_)) (.pu _ _ hRP) (.ls _ _)
 ·by_cases e:p.block=w.heap.size
  ·have h:(if p.block=w.heap.size then w'.cell? p else G.F p)=some u:=h
   rw [if_pos e] at h;exact h
  ·have h:(if p.block=w.heap.size then w'.cell? p else G.F p)=some u:=h
   rw [if_neg e] at h
   have h2:=ok.fw p u h
   rw [hbel.cell (cell_block h2)];exact h2
 ·by_cases e:p.block=w.heap.size
  ·exact .inr (by omega)
  ·have h:(if p.block=w.heap.size then w'.cell? p else G.F p)=some u:=h
   rw [if_neg e] at h;exact .inl h
def bdfV (P:Program)(σ:St):Op→Option (Nat×List (List AV))
 | .buildSlice T m parts =>
  match P.underlying T with
  | some (.slice e) =>
   match sizeB P e,(P.info? e).bind (·.zero),σ.evs (parts.toList.map (·.2)) with
   | some n,some _,some avs =>
    bif numB 0 parts.toList && Nat.beq parts.toList.length m && Nat.ble (m*n) 16777216 && Nat.ble m 16777216 && rowsB n avs then some (n,avs.map AV.cells) else none
   | _,_,_=>none
  | _=>none
 | _=>none
theorem WV.bdF {n:Nat} {rows:List (List AV)} (h:bdfV P σ o.op=some (n,rows)):WV P C o σ (.ls n rows):=by
 unfold bdfV at h
 split at h
 ·rename_i T m parts ho
  split at h
  ·rename_i e hT
   split at h
   ·rename_i n' z avs hn hz hx
    cases hb:numB 0 parts.toList && Nat.beq parts.toList.length m && Nat.ble (m*n') 16777216 && Nat.ble m 16777216 && rowsB n' avs with
    | false=>rw [hb] at h;cases h
    | true =>
     rw [hb] at h
     simp only [Bool.and_eq_true] at hb
     cases h
     exact WV.bdF0 ho hT hn hz (numB_eq 0 _ hb.1.1.1.1) (by have:=Nat.eq_of_beq_eq_true hb.1.1.1.2;simpa using this) hb.1.1.2 hb.1.2 hx hb.2 rfl
   ·cases h
  ·cases h
 ·cases h
end
end
end Go.Proofs.YtgelfflighgajaaGreatDoor
