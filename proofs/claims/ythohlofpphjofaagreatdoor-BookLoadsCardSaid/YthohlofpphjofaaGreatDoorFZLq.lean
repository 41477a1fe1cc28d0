/- A walk that knows values as trees: a drawn region with one chain of writes; what stands until the last of these is known to all that come ahead of it. -/
import Derived.Test.YthohlofpphjofaaGreatDoorGRLq
set_option linter.unusedVariables false
set_option linter.unusedSimpArgs false
namespace Go.Proofs.YthohlofpphjofaaGreatDoor
section
open Go.RowKit
def Gh.fpk(G:Gh)(k:Nat)(φ:Nat->Prop):Gh:=⟨G.F,G.b,G.n,G.h,λq=>if q=k then φ else G.fp q⟩
theorem ahF (G:Gh)(k:Nat)(φ:Nat->Prop)(nk:Nat):G.le (G.fpk k φ) nk:=⟨λ_ _ h=>h,λ_ _=>rfl,λ_ _=>rfl,λ_ _=>rfl⟩
theorem qR {G:Gh} {k:Nat} {φ:Nat->Prop}:(G.fpk k φ).fp k=φ:=if_pos rfl
theorem lW {G:Gh} {k q:Nat} {φ:Nat->Prop} (h:q≠k):(G.fpk k φ).fp q=G.fp q:=if_neg h
section
variable {B:World→View→Prop} {gl:Nat} {P:Program} {C:Cx} {σ σ':St} {G G':Gh} {a:Act} {w w':World} {o:Oper} {d:Tmp} {ops:Array Oper} {rest:List Oper} {Q:Exit→St→Prop}
theorem Ok.axS (ok:Ok C σ G a w) {k:Nat} {ob ob':AO} {φ:Nat->Prop} (hk:look k σ.M=some ob) (hob:o8 (G.fpk k φ) w k ob') (hbd:ob'.bd σ.nk)(hφ:∀ x,φ x->C.may x/\x<w.heap.size/\(∀ i o,i≠k->look i σ.M=some o->¬ G.fp i x)/\∀ p u,G.F p=some u->p.block≠x):Ok C (σ.upd k ob') (G.fpk k φ) a w:=by
 have hl:∀ k' o,look k' (σ.upd k ob').M=some o->(k'=k/\o=ob')\/(k'≠k/\look k' σ.M=some o):=λk' o hx=>by exact anC
 refine ⟨ok.sz,ok.df,λi av h=>⟨(ok.tm i av h).1,(ok.tm i av h).2.1,(ok.tm i av h).2.2.mono (ahF G k φ σ.nk) (ok.tm i av h).2.1⟩,ok.bel,ok.fw,ok.f0,ok.f1,λi o h=>?_,λi o x h1 h2=>?_,λi o i' o' x h1 h2 h3 h4=>?_,λi o x p u h1 h2 h3=>?_⟩
 .rcases hl i o h with⟨rfl,rfl⟩|⟨e,y⟩;.exact ⟨(ok.ob i _ hk).1,hbd,hob⟩
  .obtain ⟨a1,a2,a3⟩:=ok.ob i o y;exact ⟨a1,a2,a3.keep (ahF G k φ σ.nk) a1 a2 (lW e) λ_ _=>rfl⟩
 .rcases hl i o h1 with⟨rfl,rfl⟩|⟨e,y⟩;.simp_all[qR]
  .rw [lW e] at h2;exact ok.my i o x y h2
 .rcases hl i o h1 with⟨rfl,rfl⟩|⟨e,y⟩
  .rcases hl i' o' h2 with⟨rfl,rfl⟩|⟨e',y'⟩;all_goals simp_all[qR,lW]
  .rcases hl i' o' h2 with⟨rfl,rfl⟩|⟨e',y'⟩;.simp_all[qR,lW]
   .rw [lW e] at h3;rw [lW e'] at h4;exact ok.dj i o i' o' x y y' h3 h4
 .rcases hl i o h1 with⟨rfl,rfl⟩|⟨e,y⟩;.rw [qR] at h2;exact (hφ x h2).2.2.2 p u h3
  .rw [lW e] at h2;exact ok.dF i o x p u y h2 h3
theorem cO.open_ {F:View} {T n:Nat} {rows:List (List AV)} {v:Value} {φ:Nat->Prop} (h:cO w T n rows v φ (XO F w)) {i j:Nat} {r:List AV} {av:AV} (hr:rows[i]?=some r) (hj:r[j]?=some av) :∃ u ψ,OW F w av u ψ/\(∀ x,ψ x->φ x)/\u.oneCell'=true/\∀ (X:Nat->Nat->(Nat->Prop)->AV->Value->Prop),(∀ χ,X i j χ av u)->(∀ q s χ y z,¬ (q=i/\s=j)->OW F w y z χ->X q s χ y z)->cO w T n rows v (λx=>φ x/\¬ ψ x) X:=by
 obtain ⟨h1,vs,Φ,h2,h3,h4,h5,h6,h7,h8,h9⟩:=h;have hi:i<rows.length:=(List.getElem?_eq_some_iff.1 hr).1;have hv:vs[i]?=some vs[i]:=aO (by omega);have e1:=h8 i r _ hr hv;have hjl:j<vs[i].length:=by grind
 have hu:vs[i][j]?=some vs[i][j]:=aO hjl;refine ⟨vs[i][j],Φ i j,h9 i r _ j av _ hr hv hj hu,λx hx=>(h6 i j x hx).1,h4 _ (gB _) _ (gB _),λX hX hO=>?_⟩;refine ⟨h1,vs,λq s x=>¬ (q=i/\s=j)/\Φ q s x,h2,h3,h4,λg hg=>⟨h5 g hg,λhx=>(h6 i j g hx).2 hg⟩,λq s x hx=>⟨⟨(h6 q s x hx.2).1,λhy=>hx.1 ((h7 q s i j x hx.2 hy))⟩,(h6 q s x hx.2).2⟩,λq s q' s' x hx hy=>h7 q s q' s' x hx.2 hy.2,h8,λq r1 r2 s y z a1 a2 a3 a4=>?_⟩;by_cases e:q=i/\s=j;.grind
 .have:(λx=>¬ (q=i/\s=j)/\Φ q s x)=Φ q s:=by
   funext x;exact propext ⟨λhx=>hx.2,λhx=>⟨e,hx⟩⟩
  show X q s (λx=>¬ (q=i/\s=j)/\Φ q s x) y z;rw [this];exact hO q s _ y z e (h9 q r1 r2 s y z a1 a2 a3 a4)
theorem Tr.open_ (k i j:Nat) {T n T' n' m:Nat} {rows rows':List (List AV)} {r:List AV} (hk:look k σ.M=some (.jO T n rows)) (hr:rows[i]?=some r) (hj:r[j]?=some (.ow T' n' rows')) (hp:∀ q∈rows',∀ av∈q,av.own=false) (hm:σ.nk=m) :Tr C σ ((σ.new (.row T' n' rows')).upd k (.rV T n rows i j (.sl m))):=λG a w ok=>by
 subst hm;obtain ⟨g1,_,g3,g4,g5⟩:=ok.ob k _ hk;obtain ⟨u,ψ,hO,ZC,hone,hX⟩:=g5.open_ hr hj;have hR:=hO.row;have ok1:=ok.axS (φ:=λx=>G.fp k x/\¬ ψ x) (ob':=.rV T n rows i j (.sc u)) hk ⟨g3,g4,by
  rw [qR];refine hX (XQ (G.fpk k _) w i j (.sc u)) (λχ=>?_) λq s χ y z hne hy=>?_
  .unfold XQ;rw [if_pos ⟨rfl,rfl⟩];exact .pu _ _ (.sc u)
  .unfold XQ;rw [if_neg hne];exact hy⟩ (.sc u) λx hx=>⟨(ok.my k _ x hk hx.1).1,(ok.my k _ x hk hx.1).2,λq oq hq h1 h2=>hq (ok.dj q oq k _ x h1 hk h2 hx.1),λp v=>ok.dF k _ x p v hk hx.1⟩;have ok2:=ok1.newObj (S:=λ_=>False) (b:=u.ownBlock.getD 0) (n:=n') (h:=u) (φ:=ψ) (ob:=.row T' n' rows') (Kept.refl _ w) (λ_ h=>h.elim) (λ_ _ _ _ _ h=>h) (λ_ _ _ h=>h) ⟨uZ,(λg hg=>by simp_all[fB,su]),by
   rw [fB,qH];exact hR.keep (λ_ _=>rfl) λq rr s av χ z a1 a2 _ x=>OW.p x (hp rr (cZ a1) av (cZ a2))⟩ trivial (λx hx=>⟨(ok.my k _ x hk (ZC x hx)).1,(ok.my k _ x hk (ZC x hx)).2,λq oq h1 h2=>by
   by_cases e:q=k
   .subst e;rw [qR] at h2;exact h2.2 hx
   .rw [lW e] at h2;rw [show look q (σ.upd k _).M=look q σ.M from ah e] at h1;exact e (ok.dj q oq k _ x h1 hk h2 (ZC x hx)),λp v h1=>ok.dF k _ x p v hk (ZC x hx) h1⟩);have hkn:k≠(σ.upd k (.rV T n rows i j (.sc u))).nk:=Nat.ne_of_lt g1;have hk2:look k ((σ.upd k (.rV T n rows i j (.sc u))).new (.row T' n' rows')).M=some (.rV T n rows i j (.sc u)):=(ah hkn).trans aB;obtain ⟨b1,b2,b3,b4,b5⟩:=ok2.ob k _ hk2;have ok3:=ok2.aaM (ob':=.rV T n rows i j (.sl σ.nk)) hk2 ⟨b1,.sl _ (vw _),b3,b4,b5.keep (λ_ _=>rfl) λq rr s av χ z _ _ _ x=>by
  unfold XQ at x ⊢;by_cases e:q=i/\s=j
  .rw [if_pos e] at x ⊢;rw [x.fM];exact tY hone
  .rw [if_neg e] at x ⊢;exact x⟩;have hl:∀ q,look q ((σ.new (.row T' n' rows')).upd k (.rV T n rows i j (.sl σ.nk))).M=look q (((σ.upd k (.rV T n rows i j (.sc u))).new (.row T' n' rows')).upd k (.rV T n rows i j (.sl σ.nk))).M:=λq=>by
  by_cases e:q=k;.subst e;exact aB.trans aB.symm
  .refine (ah e).trans (Eq.trans ?_ (ah e).symm);by_cases e2:q=σ.nk;.subst e2;exact aB.trans aB.symm
   .exact (ah e2).trans ((ah e2).trans (ah e)).symm
 exact ⟨_,ok3.sz,ok3.df,ok3.tm,ok3.bel,ok3.fw,ok3.f0,ok3.f1,λq x hx=>ok3.ob q x Jq,λq x y hx=>ok3.my q x y Jq,λq x q' x' y hx hx'=>ok3.dj q x q' x' y Jq (by rw [← hl];exact hx'),λq x y p u hx=>ok3.dF q x y p u Jq⟩
theorem Tr.close_ (k:Nat) {T n T' n' m i j:Nat} {rows rows' fQ:List (List AV)} {r:List AV} (hk:look k σ.M=some (.rV T n rows i j (.sl m))) (hm:look m σ.M=some (.row T' n' rows')) (hkm:Nat.beq k m=false) (hr:rows[i]?=some r) (hj:j<r.length) (he:rows.set i (r.set j (.ow T' n' rows'))=fQ) :Tr C σ ((σ.drop m).upd k (.jO T n fQ)):=λG a w ok=>by
 subst he;have hne:k≠m:=λe=>by simp_all
 obtain ⟨g1,_,g3,g4,g5⟩:=ok.ob k _ hk;obtain ⟨m1,_,m3,m4,m5⟩:=ok.ob m _ hm;have okd:=ok.Kt m;have hkd:look k (σ.drop m).M=some (.rV T n rows i j (.sl m)):=by
  show look k (rem m σ.M)=_;simp_all[mV]
 have hIn:OW G.F w (.ow T' n' rows') (G.h m) (G.fp m):=(m5.keep (X':=XO G.F w) (λ_ _=>rfl) λq rr s av χ z _ _ _ x=>.pu _ _ _ x).ow;have hi:i<rows.length:=(List.getElem?_eq_some_iff.1 hr).1;have hdj:∀ x,G.fp k x->G.fp m x->False:=λx h1 h2=>hne (ok.dj k _ m _ x hk hm h1 h2);refine ⟨G.fpk k (λx=>G.fp k x\/G.fp m x),okd.axS hkd ⟨g3,g4,?_⟩ trivial λx hx=>?_⟩
 .rw [qR];obtain ⟨h1,vs,Φ,h2,h3,h4,h5,h6,h7,h8,h9⟩:=g5;have key:∀ q s,(if q=i/\s=j then (λ(_:Unit)=>G.fp m) else (λ_=>Φ q s)) ()=λx=>(q=i/\s=j/\G.fp m x)\/(¬ (q=i/\s=j)/\Φ q s x):=λq s=>by
   by_cases e:q=i/\s=j
   .rw [if_pos e];funext x;exact propext ⟨λh=>.inl ⟨e.1,e.2,h⟩,λh=>h.elim (λy=>y.2.2) λy=>absurd e y.1⟩
   .rw [if_neg e];funext x;exact propext ⟨λh=>.inr ⟨e,h⟩,λh=>h.elim (λy=>absurd ⟨y.1,y.2.1⟩ e) λy=>y.2⟩
  refine ⟨λq hq=>?_,vs,λq s x=>(q=i/\s=j/\G.fp m x)\/(¬ (q=i/\s=j)/\Φ q s x),h2,by simpa using h3,h4,λg hg=>.inl (h5 g hg),λq s x hx=>?_,λq s q' s' x hx hy=>?_,λq r1 r2 a1 a2=>?_,λq r1 r2 s y z a1 a2 a3 a4=>?_⟩
  .rcases Us hq with hq|rfl;.exact h1 q hq
   .rw [Rh];exact h1 r (cZ hr)
  .rcases hx with⟨_,_,hx⟩|⟨_,hx⟩;.exact ⟨.inr hx,λe=>hdj x (h5 x e) hx⟩
   .exact ⟨.inl (h6 q s x hx).1,(h6 q s x hx).2⟩
  .rcases hx with⟨e1,e2,hx⟩|⟨_,hx⟩
   .rcases hy with⟨e3,e4,hy⟩|⟨_,hy⟩;.exact ⟨e1.trans e3.symm,e2.trans e4.symm⟩
    .exact (hdj x (h6 _ _ x hy).1 hx).elim
   .rcases hy with⟨e3,e4,hy⟩|⟨_,hy⟩;.exact (hdj x (h6 _ _ x hx).1 hy).elim
    .exact h7 q s q' s' x hx hy
  .by_cases e:i=q
   .subst e;rw [sK hi] at a1;cases a1;rw [Rh];exact h8 i r r2 hr a2
   .rw [pV e] at a1;exact h8 q r1 r2 a1 a2
  .show OW G.F w y z (λx=>(q=i/\s=j/\G.fp m x)\/(¬ (q=i/\s=j)/\Φ q s x));rw [← key q s];by_cases e:i=q
   .subst e;rw [sK hi] at a1;cases a1;by_cases e2:j=s
    .subst e2;rw [sK hj] at a3;cases a3;rw [if_pos ⟨rfl,rfl⟩];have:=h9 i r r2 j r[j] z hr a2 (aO hj) a4;unfold XQ at this;rw [if_pos ⟨rfl,rfl⟩] at this;rw [this.lH.1];exact hIn
    .rw [pV e2] at a3;rw [if_neg (λh=>e2 h.2.symm)];have:=h9 i r r2 s y z hr a2 a3 a4;unfold XQ at this;rw [if_neg (λh=>e2 h.2.symm)] at this;exact this
   .rw [pV e] at a1;rw [if_neg (λh=>e h.1.symm)];have:=h9 q r1 r2 s y z a1 a2 a3 a4;unfold XQ at this;rw [if_neg (λh=>e h.1.symm)] at this;exact this
 .have old:∀ q oq,look q σ.M=some oq->(q=k\/q=m)->G.fp q x->C.may x/\x<w.heap.size/\(∀ i o,i≠k->look i (σ.drop m).M=some o->¬ G.fp i x)/\∀ p u,G.F p=some u->p.block≠x:=λq oq hq hkq hx=>by
   refine ⟨(ok.my q oq x hq hx).1,(ok.my q oq x hq hx).2,λi' o' hi' h1 h2=>?_,λp u=>ok.dF q oq x p u hq hx⟩;obtain ⟨d1,d2⟩:=iq h1;have:=ok.dj i' o' q oq x d2 hq h2 hx;rcases hkq with e|e;.exact hi' (this.trans e)
   .exact d1 (this.trans e)
  rcases hx with hx|hx;.exact old k _ hk (.inl rfl) hx
  .exact old m _ hm (.inr rfl) hx
theorem WV.ldQ {T T' n:Nat} {x:Operand} {k i j:Nat} {rows:List (List AV)} {r:List AV} {av:AV} (ho:o.op=.load T x)(hT:zn P T=some false)(hx:σ.ev x=some (.pt k i j))(hk:look k σ.M=some (.rV T' n rows i j av))(hr:rows[i]?=some r)(hj:j<r.length):WV P C o σ av :=WV.val (λG a w ok=>(ok.ob k _ hk).2.1) λG a w ok=>by
  obtain⟨p,e,h1,h2,h3⟩:=(ok.l9 hx).2.lu;obtain rfl:=addr_eq h1 h2 h3;obtain⟨hn,hg,hR⟩:=(ok.ob k _ hk).2.2;obtain⟨u,hu,ψ,hX⟩:=hR.Si hg hr (aO hj);simp_all[XQ,execOp,Ht]
def ao6 (P:Program)(σ:St):Op->Option (List (List AV)×Nat×Nat×Nat×Nat×AV)
 | .load T x =>match zn P T,σ.ev x with
  | some false,some (.pt k i j) =>match look k σ.M with
   | some (.rV _ _ rows hi hj av)=>some (rows,i,j,hi,hj,av)| _=>none
  | _,_=>none
 | _=>none
theorem Td {rows:List (List AV)} {i j hi hj:Nat} {r:List AV} {av:AV} (h:ao6 P σ o.op=some (rows,i,j,hi,hj,av))(e1:i=hi)(e2:j=hj)(hr:rows[i]?=some r)(hjr:j<r.length):WV P C o σ av:=by
 subst e1 e2;unfold ao6 at h;grind[WV.ldQ]
theorem WL.ldQ {rows:List (List AV)} {i j hi hj:Nat} {r:List AV} {av:AV} (hd:ji C.N o=some d)(h:ao6 P σ o.op=some (rows,i,j,hi,hj,av))(e1:i=hi)(e2:j=hj)(hr:rows[i]?=some r)(hjr:j<r.length)(k:WL P C ops rest (σ.put d av) Q):WL P C ops (o::rest) σ Q:=WL.vl hd (Td h e1 e2 hr hjr) k
def fG (C:Cx)(σ:St)(av Vf:AV):Prop:=∀ G a w,Ok C σ G a w->∀ v,R G av v->RP (λq=>w.cell? q) Vf v
inductive Ih (C:Cx) (σ:St):List AV->List AV->Prop| nil:Ih C σ [] []| cons {x y:AV} {l m:List AV}:fG C σ x y->Ih C σ l m->Ih C σ (x::l) (y::m)
theorem Ih.at_ {l m:List AV} (h:Ih C σ l m):l.length=m.length/\∀ (i:Nat)y,m[i]?=some y->∃ x,l[i]?=some x/\fG C σ x y:=by induction h<;>grind
theorem fG.pu {av:AV} (hp:av.pu2=true):fG C σ av av:=λG a w ok v h=>RP.mono (λp u x=>ok.fw p u x) ((qB hp 0).rp h)
theorem fG.row {k T n:Nat} {rows:List (List AV)} (hk:look k σ.M=some (.row T n rows)):fG C σ (.sl k) (.ls n rows):=λG a w ok v h=>by
 rw [h.lH.1];obtain ⟨_,_,hob⟩:=ok.ob k _ hk;have:=cO.fix (F':=λq=>w.cell? q) id hob.2.2 (λ_ _=>rfl) λi r j av u ψ _ _ _ x=>RP.mono (λp u x=>ok.fw p u x) x;exact lS
theorem cO.azc {T n:Nat} {rows rows':List (List AV)} {v:Value} {φ:Nat->Prop} {X:Nat->Nat->(Nat->Prop)->AV->Value->Prop} {F':View} (h:cO w T n rows v φ X)(hl:rows'.length=rows.length)(hln:∀ r∈rows',r.length=n)(hX:∀ (i:Nat) r (j:Nat) av u ψ,rows'[i]?=some r->r[j]?=some av->(∀ r0 av0,rows[i]?=some r0->r0[j]?=some av0->X i j ψ av0 u)->RP F' av u)(hF:∀ p,φ p.block->F' p=w.cell? p):RP F' (.ls n rows') v:=by
 have hrl:=h.1;have h':cO w T n rows' v φ (λi j ψ av u=>∀ r0 av0,rows[i]?=some r0->r0[j]?=some av0->X i j ψ av0 u):=by
  obtain⟨h1,vs,Φ,h2,h3,h4,h5,h6,h7,h8,h9⟩:=h;refine⟨hln,vs,Φ,h2,by rw [hl];exact h3,h4,h5,h6,h7,λi r r' a1 a2=>?_,λi r r' j av u a1 a2 a3 a4 r0 av0 b1 b2=>h9 i r0 r' j av0 u b1 a2 b2 a4⟩;grind
 have:=cO.fix (F':=F') id h' hF λi r j av u ψ hr hav _ x=>hX i r j av u ψ hr hav x;simpa using this
theorem fG.rV (dp:Nat) {k T n i j:Nat} {rows rows':List (List AV)} {r:List AV} {x x':AV} (hk:look k σ.M=some (.rV T n rows i j x)) (hx:fG C σ x x') (hs:∀ r∈rows,∀ av∈r,av.X3 dp=true) (hr:rows[i]?=some r) (hj:j<r.length)(he:(rows.map λr=>r.map (AV.fz dp)).set i ((r.map (AV.fz dp)).set j x')=rows'):fG C σ (.sl k) (.ls n rows'):=λG a w ok v h=>by
 rw [h.lH.1,← he];obtain ⟨_,_,hob⟩:=ok.ob k _ hk;have hi:i<rows.length:=(List.getElem?_eq_some_iff.1 hr).1;have hrl:=hob.2.2.1;refine cO.azc hob.2.2 (by simp) (λq hq=>?_) (λq r1 s av u ψ a1 a2 a3=>?_) (λ_ _=>rfl);.grind
 .by_cases e:i=q
  .subst e;rw [sK (by simpa using hi)] at a1;cases a1;by_cases e2:j=s
   .subst e2;rw [sK CX] at a2;cases a2;have:=a3 r r[j] hr (aO hj);unfold XQ at this;rw [if_pos ⟨rfl,rfl⟩] at this;exact hx G a w ok u this
   .rw [pV e2,dw] at a2;cases h0:r[s]? with
    | none=>simp [h0] at a2| some av0 =>
     simp only [h0,oG,Option.some.injEq] at a2;subst a2;have:=a3 r av0 hr h0;unfold XQ at this;rw [if_neg (λh=>e2 h.2.symm)] at this;exact OW.fix (λp u x=>ok.fw p u x) dp this (λ_ _=>rfl) (hs r (cZ hr) av0 (cZ h0))
  .rw [pV e,dw] at a1;cases h0:rows[q]? with
   | none=>simp [h0] at a1| some r0 =>
    simp only [h0,oG,Option.some.injEq] at a1;subst a1;rw [dw] at a2;cases h1:r0[s]? with
    | none=>simp [h1] at a2| some av0 =>
     simp only [h1,oG,Option.some.injEq] at a2;subst a2;have:=a3 r0 av0 h0 h1;unfold XQ at this;rw [if_neg (λh=>e h.1.symm)] at this;exact OW.fix (λp u x=>ok.fw p u x) dp this (λ_ _=>rfl) (hs r0 (cZ h0) av0 (cZ h1))
theorem fG.ag {l m:List AV} (h:Ih C σ l m):fG C σ (.ag l) (.ag m):=λG a w ok v hv=>by
 obtain ⟨cs,rfl,h1,h2⟩:=hv.Ed;obtain ⟨q1,q2⟩:=h.at_;refine .ag _ cs au λi av u x y=>?_;obtain ⟨b,hb,hL⟩:=q2 i av x;exact hL G a w ok u (h2 i b u hb y)
theorem WV.Iy (hB:Holds B gl C) {f:FuncId} {xs:Array Operand} {ts:Array TypeId} {args args':List AV} {res:Value} (ho:o.op=.call { callee:=.value (.func f),args:=xs,argTypes:=ts }) (hc:∀ vs w,(callFunc f vs).run P w=.ok (.enter f vs) w)(hx:σ.evs xs.toList=some args) (hl:Ih C σ args args') (hst:∀ w F F',View.le F F'->B w F->B w F') (h:jB B P f args' (.sc res)):WV P C o σ (.sc res):=by
 intro G a w ok N Q' hN;obtain ⟨e1,e2⟩:=ok.evl hx;obtain ⟨q1,q2⟩:=hl.at_;have hF:G.F.le λq=>w.cell? q:=λp u x=>ok.fw p u x;have qo:=h w (λq=>w.cell? q) (xs.toList.map a.eval) (hst w _ _ hF (hB.1 w G.F ok.bel ok.f0)) (λ_ _ x=>x) ⟨by rw [e1,q1],λi av u p q=>by
  obtain ⟨b,hb,hL⟩:=q2 i av p;exact hL G a w ok u (e2 i b u hb q)⟩;refine lN ?_;have ev:a.eval (.func f)=.func (.func f) #[] #[]:=rfl;have e3:(#[]++xs.map a.eval++#[]:Array Value)=(xs.toList.map a.eval).toArray:=by apply AQ;simp
 simp only [ho,resolve,ev,Deferred.ofValue,invoke,Sem.run_bind,Sem.run_pure,Result.andThen_ok,hc,Oper.upon,e3];refine qo.mono λe w1 ⟨v,F',he,hb,h1,h2,h3,h4⟩=>?_;subst he;have hv:=h4.fM;subst hv;exact hN _ { G with F:=G.F } w1 (λBX a'' DF=>DF.called hb (λ_ _ x=>x) (λp u x=>by rw [hb.cell (aQ (ok.fw p u x))];exact ok.fw p u x) (λ_ _ x=>.inl x)) (.pu _ _ (.sc _)) (RP.bd (F:=G.F) (.sc _) _)
end
section
variable {P:Program} {C:Cx} {σ:St} {G:Gh} {a:Act} {w:World} {o:Oper} {d:Tmp} {ops:Array Oper} {rest:List Oper} {Q:Exit→St→Prop}
theorem WO.buildO {T e n q:Nat} {z:Value} {parts:Array (Nat×Operand)} {x0:Operand} {av0 y0:AV} {j0:Nat} (ho:o.op=.buildSlice T 1 parts) (hT:P.underlying T=some (.slice e)) (hn:fZ P e=some n) (hz:(P.info? e).bind (·.zero)=some z)(hp:parts.toList=number 0 [x0]) (hb:Nat.ble (1*n) 16777216=true) (hds:o.dst=some d) (hd:Nat.blt d C.N=true) (hx:σ.ev x0=some av0) (hcB:av0.l7=true) (hcl:av0.cells.length=n) (hc1:av0.cells.all AV.xO=true) (hcj:av0.cells[j0]?=some y0) (hc0:∀ s x,s≠j0->av0.cells[s]?=some x->x.TL=true) (hq:σ.nk=q) :WO P C o σ ((σ.new (.rV e n [av0.cells] 0 j0 y0)).put d (.sl q)):=by
 intro G a w ok N Q' hN;obtain ⟨hbd,hr⟩:=ok.l9 hx;obtain ⟨c1,c2⟩:=uy hr hcB;have hv:(a.eval x0).cells.size=n:=c1.trans hcl;have hrun:=MW (P:=P) (T:=T) (e:=e) (n:=n) (m:=1) (vs:=[a.eval x0]) (parts:=parts.map λ(i,x)=>(i,a.eval x)) hT hn hz (by
  have:=DC a.eval 0 [x0];rw [← hp] at this;simpa using this) rfl (λv hv'=>by obtain rfl:=List.mem_singleton.1 hv';exact hv) (bG hb) w;have hfl:(([a.eval x0]).map λv=>v.cells.toList).flatten=(a.eval x0).cells.toList:=by simp
 have hown:=Qs w e n 1 (([a.eval x0]).map λv=>v.cells.toList).flatten.toArray Oh (by rw [hfl,Array.toArray_toList,hv];omega);have ah5:∀ r∈[(a.eval x0).cells.toList],∀ u∈r,u.oneCell'=true:=λr hr' u hu=>by
  obtain rfl:=List.mem_singleton.1 hr';obtain ⟨j,hj,rfl⟩:=oz hu;have hj2:j<av0.cells.length:=by rw [← c1];simpa using hj
  exact TD (c2 j _ _ (aO hj2) (by simp at hj;simp [hj])) (List.all_eq_true.1 hc1 _ (gB hj2))
 have hsl:(.slice (some ⟨w.heap.size,0,none⟩) 1 1:Value).ownBlock=some w.heap.size:=rfl;have hy:Bd σ.nk y0:=Ef hbd j0 y0 hcj;have ok':=ok.newObj (w':=w.alloc (.cells (([a.eval x0]).map λv=>v.cells.toList).flatten.toArray e)) (S:=λ_=>False) (b:=w.heap.size) (n:=n) (h:=.slice (some ⟨w.heap.size,0,none⟩) 1 1) (φ:=λx=>x=w.heap.size) (ob:=.rV e n [av0.cells] 0 j0 y0) (Kept.below ((Below.refl _ _).alloc (Nat.le_refl _) _)) (λ_ h=>h.elim) (λ_ _ _ _ _ h=>h) (λ_ _ _ h=>h) ⟨uZ,(λg hg=>by rw [fB,hsl] at hg;rw [su];exact (Option.some.inj hg).symm),by
   rw [fB,qH];refine ⟨λr hr'=>by obtain rfl:=List.mem_singleton.1 hr';exact hcl,[(a.eval x0).cells.toList],λ_ _ _=>False,?_,rfl,ah5,λg hg=>by rw [hsl] at hg;exact (Option.some.inj hg).symm,λ_ _ _ h=>h.elim,λ_ _ _ _ _ h=>h.elim,λi r r' h1 h2=>?_,λi r r' j av u h1 h2 h3 h4=>?_⟩;·exact yI (by simpa using hown) (iT _)
   ·cases i with
    | zero=>cases h1;cases h2;simpa using c1| succ i=>simp at h1
   ·cases i with
    | succ i=>simp at h1| zero =>
     cases h1;cases h2;have hR:=c2 j av u h3 (by simpa using h4);unfold XQ;by_cases e:j=j0
     ·subst e;rw [if_pos ⟨rfl,rfl⟩];rw [hcj] at h3;cases h3;exact hR.mono (G.Ui σ.nk _ _ _ _) hy
     ·rw [if_neg (λh=>e h.2)];exact .pu _ _ _ (show RP G.F av u from (Ad (hc0 j av e h3) 0).rp hR)⟩ (hy.mono (xZ _)) (λx hx=>by
   obtain rfl:x=w.heap.size:=hx;refine ⟨.inl ok.bel.size,by simp,λk o h1 h2=>?_,λp u h1 h2=>?_⟩;·have:=(ok.my k o _ h1 h2).2;omega
   ·have:=aQ (ok.fw p u h1);omega);refine lN ?_;simp only [ho,Sem.run_bind,hrun,Result.andThen_ok,Sem.run_pure,Oper.upon];rw [hds];subst hq;exact hN _ _ _ (ok'.set (d:=some d) (av:=.sl σ.nk) (v:=.slice (some ⟨w.heap.size,0,none⟩) 1 1) (tY rfl) (.sl _ (vw _)) λx hx=>by cases hx;exact dn hd)
structure BdD where
 e:TypeId
 n:Nat
 cells:List AV
def av9 (P:Program) (σ:St):Op->Option BdD
 | .buildSlice T 1 ⟨[(0,x)]⟩ =>match P.underlying T,σ.ev x with
  | some (.slice e),some av =>match fZ P e,(P.info? e).bind (·.zero) with
   | some n,some _=>bif av.l7 && Nat.beq av.cells.length n && av.cells.all AV.xO && Nat.ble (1*n) 16777216 then some ⟨e,n,av.cells⟩ else none| _,_=>none
  | _,_=>none
 | _=>none
def L8 (j:Nat):Nat->List AV->Bool
 | _,[]=>true| s,x::r=>(Nat.beq s j|| x.TL) && L8 j (s+1) r
theorem G9 {j:Nat}:∀ {l:List AV} {s:Nat},L8 j s l=true->∀ i x,s+i≠j->l[i]?=some x->x.TL=true
 | [],s,_,i,x,_,h=>by simp at h| y::r,s,hp,i,x,hi,h=>by
  simp only [L8,gG,CQ] at hp;cases i with
  | zero =>
   cases h;rcases hp.1 with e|e;.exact absurd (dG e) hi
   .exact e| succ i=>exact G9 hp.2 i x (by omega) yj
theorem WL.bdO {x:BdD} {t:List (Nat×AV)} {M:List (Nat×AO)} {nk:Nat} (j:Nat) {y:AV} (hd:ji C.N o=some d) (h:av9 P ⟨t,M,nk⟩ o.op=some x) (hj:x.cells[j]?=some y) (hp:L8 j 0 x.cells=true)(k:WL P C ops rest ⟨(d,.sl nk)::t,(nk,.rV x.e x.n [x.cells] 0 j y)::M,nk+1⟩ Q):WL P C ops (o::rest) ⟨t,M,nk⟩ Q:=by
 obtain ⟨hg,hds,hdb⟩:=gK hd;refine WL.op hg ?_ k;unfold av9 at h;split at h
 .rename_i T x0 ho;split at h
  .rename_i e av hT hx;split at h
   .rename_i n z hn hz;cases hb:av.l7 && Nat.beq av.cells.length n && av.cells.all AV.xO && Nat.ble (1*n) 16777216 with
    | false=>rw [hb] at h;cases h| true =>
     rw [hb] at h;cases h;simp only [gG] at hb;obtain ⟨⟨⟨b1,b2⟩,b3⟩,b4⟩:=hb;exact WO.buildO (σ:=⟨t,M,nk⟩) ho hT hn hz rfl b4 hds hdb hx b1 (dG b2) b3 hj (λs x hs hx=>G9 hp s x au hx) rfl
   .cases h
  .cases h
 .cases h
structure avY where
 T:TypeId
 n:Nat
 k:Nat
 q:Nat
 a:List (List AV)b:List (List AV)
def av8 (P:Program) (σ:St):Op->Option avY
 | .call { callee:=.builtin .append,args:=⟨[x,y]⟩,argTypes:=⟨[T,T']⟩ } =>match P.underlying T,σ.ev x,σ.ev y with
  | some (.slice e),some (.sl k),some (.sl q) =>match P.info? e,look k σ.M,look q σ.M with
   | some i,some (.jO e' n rows),some (.jO _ n' fQ) =>match i.zero with
    | some z=>bif Nat.beq T T' && Nat.beq e e' && Nat.beq n n' && Nat.beq i.size n && Nat.beq z.cells.size n && Nat.blt 0 n && Nat.ble i.bytes 100000 && !Nat.beq k q then some ⟨e,n,k,q,rows,fQ⟩else none| _=>none
   | _,_,_=>none
  | _,_,_=>none
 | _=>none
theorem WL.apM {x:avY} {t:List (Nat×AV)} {M M1 M':List (Nat×AO)} {nk:Nat} (hd:ji C.N o=some d) (h:av8 P ⟨t,M,nk⟩ o.op=some x) (hM:zu x.k M=some M1) (hM2:zu x.q M1=some M') (hl:x.a.length+x.b.length<=1000000000)(k:WL P C ops rest ⟨(d,.sl nk)::t,(nk,.jO x.T x.n (x.a++x.b))::M',nk+1⟩ Q):WL P C ops (o::rest) ⟨t,M,nk⟩ Q:=by
 rw [jE hM2,jE hM] at k;obtain ⟨hg,hds,hdb⟩:=gK hd;refine WL.op hg ?_ k;unfold av8 at h;split at h
 .rename_i x0 y0 T T' ho;split at h
  .rename_i e k' q' hT hx hy;split at h
   .rename_i i e' n rows e2 n' fQ hi hk hq;split at h
    .rename_i z hz;cases hb:Nat.beq T T' && Nat.beq e e' && Nat.beq n n' && Nat.beq i.size n && Nat.beq z.cells.size n && Nat.blt 0 n && Nat.ble i.bytes 100000 && !Nat.beq k' q' with
     | false=>rw [hb] at h;cases h| true =>
      rw [hb] at h;simp only [gG,dP] at hb;cases h;obtain ⟨⟨⟨⟨⟨⟨⟨b1,b2⟩,b3⟩,b4⟩,b5⟩,b6⟩,b7⟩,b8⟩:=hb;obtain rfl:=dG b1;obtain rfl:=dG b2;obtain rfl:=dG b3;exact WO.acj (σ:=⟨t,M,nk⟩) ho hT hi hz (dG b4) rfl (dG b5) b6 hds hdb hx hk hy hq b8 rfl hl b7 rfl
    .cases h
   .cases h
  .cases h
 .cases h
end
theorem Vw {mem s:Nat->Bool} {e:Nat} (h:∀ i,e<=i->mem i=true->s i=false):∀ {m:Nat},cur mem s m<=e
 | 0=>iT _| m+1=>by
  unfold cur;split;.grind
  .exact Vw h
section
variable {P:Program} {C:Cx} {σ σ':St} {G G':Gh} {a:Act} {w w':World} {ops:Array Oper} {Q:Exit→St→Prop}
inductive DT (P:Program) (C:Cx) (ops:Array Oper) (mem:List Bool) (Mc jK:List (Nat×AO)) (e0 dB:Nat):Nat->List Oper->St->St->Prop| nil (k:Nat) (σ:St):DT P C ops mem Mc jK e0 dB k [] σ σ| val (k:Nat) (o:Oper) (rest:List Oper) (d:Tmp) (av:AV) (nk:Nat) (mc:List (Nat×AO)) (σ σ':St):(mc=Mc\/(mc=jK/\needs ops k ops.size e0=true))->mem.getD k false=false->o.dst=some d->Nat.blt d C.N=true->(nk=dB\/(nk=σ.nk/\iV ops mem k=true))->J5 P C ops o σ.t mc nk av ->DT P C ops mem Mc jK e0 dB (k+1) rest (σ.put d av) σ'->DT P C ops mem Mc jK e0 dB k (o::rest) σ σ'| mem (k:Nat) (o:Oper) (rest:List Oper) (av:AV) (M':List (Nat×AO)) (bP:Nat) (σ σ':St):mem.getD k false=true->Nat.ble σ.nk bP=true->bD Mc M'->(Nat.blt k e0=true->bD jK M')->J4 P C ops o σ av M' bP ->DT P C ops mem Mc jK e0 dB (k+1) rest ⟨o9 o.dst true av++σ.t,M',bP⟩ σ'->DT P C ops mem Mc jK e0 dB k (o::rest) σ σ'
theorem DT.data {mem:List Bool} {Mc jK:List (Nat×AO)} {e0 dB k:Nat} {l:List Oper} {σ σ':St} (h:DT P C ops mem Mc jK e0 dB k l σ σ'):∃ (aW:Nat->AV) (ms:Nat->List (Nat×AO)) (jm:Nat->Nat),ms 0=σ.M/\jm 0=σ.nk /\σ'=⟨ents l.toArray aW (λ_=>true) l.length++σ.t,ms l.length,jm l.length⟩ /\∀ (j:Nat) (oj:Oper),l[j]?=some oj ->((mem.getD (k+j) false=false/\(∃ d,oj.dst=some d/\d<C.N)/\ms (j+1)=ms j/\jm (j+1)=jm j/\∃ nk mc,(mc=Mc\/(mc=jK/\needs ops (k+j) ops.size e0=true))/\(nk=dB\/(nk=jm j/\iV ops mem (k+j)=true))/\J5 P C ops oj (ents l.toArray aW (λ_=>true) j++σ.t) mc nk (aW j)) \/(mem.getD (k+j) false=true/\jm j<=jm (j+1)/\bD Mc (ms (j+1))/\(Nat.blt (k+j) e0=true->bD jK (ms (j+1)))/\J4 P C ops oj ⟨ents l.toArray aW (λ_=>true) j++σ.t,ms j,jm j⟩ (aW j) (ms (j+1)) (jm (j+1)))):=by
 have key:∀ (o:Oper) (rest:List Oper) (av:AV) (aW:Nat->AV),∀ m,m<=rest.length->ents (o::rest).toArray (λj=>if j=0 then av else aW (j-1)) (λ_=>true) (m+1)=ents rest.toArray aW (λ_=>true) m++o9 o.dst true av:=by
  intro o rest av aW m;induction m<;>grind[ents]
 induction h with
 | nil k σ=>exact ⟨λ_=>.sc undef,λ_=>σ.M,λ_=>σ.nk,rfl,rfl,rfl,λj oj h=>by simp at h⟩| val k o rest d av nk mc σ σ' azO hm hd hN hq hdo _ ih =>
  obtain ⟨aW,ms,jm,m0,n0,e1,e2⟩:=ih;have hent:o9 o.dst true av=[(d,av)]:=by rw [hd];rfl
  refine ⟨λj=>if j=0 then av else aW (j-1),λj=>if j=0 then σ.M else ms (j-1),λj=>if j=0 then σ.nk else jm (j-1),rfl,rfl,?_,λj oj hj=>?_⟩;.simp_all[St.put]
  .cases j with
   | zero =>
    cases hj;exact .inl ⟨hm,⟨d,hd,dn hN⟩,m0,n0,nk,mc,azO,hq,by simpa [ents] using hdo⟩| succ j =>exact asK
 | mem k o rest av M' bP σ σ' hm hn hsub hsubB hdo _ ih =>
  obtain ⟨aW,ms,jm,m0,n0,e1,e2⟩:=ih;refine ⟨λj=>if j=0 then av else aW (j-1),λj=>if j=0 then σ.M else ms (j-1),λj=>if j=0 then σ.nk else jm (j-1),rfl,rfl,?_,λj oj hj=>?_⟩;.exact amn
  .cases j with
   | zero =>
    cases hj;refine .inr ⟨hm,?_,?_,?_,?_⟩;.exact abN
    .exact abU
    .show _->bD jK (ms 0);rw [m0];exact hsubB
    exact alX| succ j =>exact asR
theorem WA.ath {l:List Oper} (mem:List Bool) (Mc jK:List (Nat×AO)) (e0:Nat) (hlast:∀ i,e0 < i->i < l.length->mem.getD i false=false) (hB:Region.lexB .any l.toArray=true) (hch:chainB l.toArray mem=true) (SG:bD Mc σ.M) (atz:bD jK σ.M) (h:DT P C l.toArray mem Mc jK e0 σ.nk 0 l σ σ') (k:Q .normal σ'):WA P C l.toArray σ Q:=by
 intro G a w ok;obtain ⟨aW,ms,jm,m0,n0,e1,e2⟩:=h.data;simp only [oC] at e2;simp only [Region.lexB,gG] at hB;obtain ⟨FA,FB⟩:=uh (ops:=l.toArray) l.toArray.size 0 (Array.replicate l.toArray.size false) (by simp) (by simp) (λi hi=>by simp [dU,hi] at hi ⊢;simp [hi]) hB.2;have sz:l.toArray.size=l.length:=by simp
 have wM:∀ i,i < l.length->mem.getD i false=false->ms (i+1)=ms i/\jm (i+1)=jm i:=λi hi hf=>by exact anh
 have Le:∀ i,i < l.length->jm i<=jm (i+1):=λi hi=>by exact ani
 have VU:C.np<=jm 0:=by rw [n0];exact ok.df.2.1
 have ah2:∀ i,i<=l.length->C.np<=jm i:=λi=>by induction i with
  | zero=>exact λ_=>VU| succ i ih=>exact λh=>gX (ih au) (Le i au)
 have aiA:∀ i,i<=l.length->bD Mc (ms i):=λi=>by induction i with
  | zero=>intro _;rw [m0];exact SG| succ i ih =>
   intro hi;exact am8
 have axv:∀ i,i<=l.length->i<=e0->bD jK (ms i):=λi=>by induction i with
  | zero=>intro _ _;rw [m0];exact atz| succ i ih =>
   intro hi hie;have q:=e2 i l[i] (aO (by omega));rcases q with ⟨_,_,a,_⟩|⟨_,_,_,a,_⟩;·rw [a];exact ih (by omega) (by omega)
   ·exact a (pY hie)
 have aoF:∀ j,j < l.length->mem.getD j false=true->iV l.toArray mem j=true:=λj hj hmj=>by exact anG
 have ahU:∀ i j,i < j->iV l.toArray mem j=true->mem.getD i false=true->needs l.toArray i l.toArray.size j=true:=λi j hij hb Ep=>by exact anF
 let cu:Array Bool->Nat:=λlisted=>cur (λi=>mem.getD i false) (λi=>listed.getD i false) l.length;let KS:Array Bool->St:=λlisted=>⟨ents l.toArray aW (λi=>listed.getD i false) l.length++σ.t,ms (cu listed),jm (cu listed)⟩;have key:∀ (fuel:Nat) (listed:Array Bool) (G:Gh) (a:Act) (w:World),listed.size=l.length->(∀ j oj,l.toArray[j]?=some oj->listed.getD j false=true->∀ e∈oj.after,Region.binds .any e=true->listed.getD e.on false=true) ->(List.range l.length).countP (λi=>!listed.getD i false)<=fuel->Ok C (KS listed) G a w->wpAny P .any l.toArray (Post C Q) fuel listed a w:=by
  intro fuel;have done:∀ (listed:Array Bool) (G:Gh) (a:Act) (w:World),listed.size=l.length->Region.ready .any l.toArray listed=[]->Ok C (KS listed) G a w->Post C Q .normal a w:=by
   intro listed G a w hsz hr ok;exact avA
  induction fuel with
  | zero =>
   intro listed G a w hsz hcl hf ok;exact aqp| succ fuel ih =>
   intro listed G a w hsz hcl hf ok;refine ⟨λhr=>done listed G a w hsz hr ok,λj hj=>?_⟩;obtain ⟨h1,oj,h2,h4⟩:=mem_ready.1 hj;have hlt:j < l.length:=by have:=(Array.getElem?_eq_some_iff.1 h2).1;omega
   have h3:listed.getD j false=false:=by exact U1
   have hlj:l[j]?=some oj:=by simpa using h2
   have KI:=e2 j oj hlj;have hlook:∀ t∈oj.looksAt l.toArray,∀ i,i < l.length->(l.toArray[i]?).bind (·.dst)=some t->listed.getD i false=decide (i < j):=by
    intro t ht i hi hdi;exact avD
   have VR:∀ t,look t (ents l.toArray aW (λ_=>true) j)=look t (ents l.toArray aW (λi=>decide (i < j)) l.length):=by
    intro t;exact aqr
   have hlooks:∀ t∈oj.looksAt l.toArray,look t (KS listed).t=look t (ents l.toArray aW (λ_=>true) j++σ.t):=λt ht=>by exact anI
   have KL:∀ t,look t (ents l.toArray aW (λi=>(listed.setIfInBounds j true).getD i false) l.length++σ.t)=look t (o9 oj.dst true (aW j)++(KS listed).t):=by
    intro t;exact arX
   have hset:∀ i,j≠i->(listed.setIfInBounds j true).getD i false=listed.getD i false:=λi e=>by simp [dU,sO e]
   have VY:(listed.setIfInBounds j true).getD j false=true:=by simp [dU,hsz,hlt]
   have hclose:∀ i oi,l.toArray[i]?=some oi->(listed.setIfInBounds j true).getD i false=true->∀ e∈oi.after,Region.binds .any e=true->(listed.setIfInBounds j true).getD e.on false=true:=by
    intro i oi hi zJ e he hb;exact am3
   have hcount:(List.range l.length).countP (λi=>!(listed.setIfInBounds j true).getD i false)<=fuel:=by exact anA
   unfold wpOp;simp only [h2];rcases KI with ⟨hmf,⟨d,hd,hdN⟩,hmc,hnc,nk,mc,azP,hnk,Ep,hti,hdo⟩|⟨hmt,aw7,hsub,_,hgd,hdo⟩;·-- memory stays
    have hot:dR (KS listed).t (oj.looksAt l.toArray)=dR (ents l.toArray aW (λ_=>true) j++σ.t) (oj.looksAt l.toArray):=qZ hlooks;have acM:nk<=jm (cu listed):=by exact alI
    have axg:bD mc (ms (cu listed)):=by
     rcases azP with rfl|⟨rfl,hne⟩;·exact aiA _ (Kq _)
     ·refine axv _ (Kq _) (Vw λi hi Ep=>?_);by_cases e:i < l.length
      ·rcases FM e0 i with h5|h5;·rw [hlast i h5 e] at Ep;cases Ep
       ·obtain rfl:i=e0:=by omega
        cases zJ:listed.getD i false with
        | false=>rfl| true =>
         have:=sW hcl _ _ hne zJ;rw [h3] at this;cases this
      ·have:mem.getD i false=true:=Ep;cases zJ:listed.getD i false with
       | false=>rfl| true=>simp [dU,hsz,e] at zJ
    have okO:Ok C ⟨dR (ents l.toArray aW (λ_=>true) j++σ.t) (oj.looksAt l.toArray),mc,nk⟩ G a w :=ok.few (hnp:=by rcases hnk with h|⟨h,_⟩<;>rw [h]<;>first|exact ah2 j (by omega)|(rw [← n0];exact VU)) (ht:=λi av hx=>⟨by rw [← hot] at hx;exact qx hx,FD hti i av hx⟩) (hM:=λq o hx=>⟨xH axg q o hx,(uK Ep q o hx).1,(uK Ep q o hx).2⟩);exact ar1
   exact avz
 exact alA
end
section
variable {B:World→View→Prop} {gl:Nat} {P:Program} {C:Cx} {σ:St} {o:Oper} {d:Tmp} {av:AV} {ops:Array Oper} {rest l:List Oper} {Q:Exit→St→Prop} {mem:List Bool} {Mc jK:List (Nat×AO)} {e0 dB k:Nat}
def aV (P:Program)(C:Cx)(ops:Array Oper)(mem:List Bool)(Mc jK:List (Nat×AO))(e0 dB k:Nat)(l:List Oper)(σ:St)(Q:Exit->St->Prop):Prop:=∃ σ',DT P C ops mem Mc jK e0 dB k l σ σ'/\Q .normal σ'
theorem aV.nil(h:Q .normal σ):aV P C ops mem Mc jK e0 dB k [] σ Q:=⟨σ,.nil k σ,h⟩
theorem aV.vl (hd:zq C.N ops mem jK k dB σ.t o=some (d,true)) (hn:needs ops k ops.size e0=true) (h:WV P C o ⟨dR σ.t (o.looksAt ops),jK,dB⟩ av) (r:aV P C ops mem Mc jK e0 dB (k+1) rest (σ.put d av) Q):aV P C ops mem Mc jK e0 dB k (o::rest) σ Q:=by
 obtain ⟨a,b,c,e,f,g⟩:=EG hd;obtain ⟨s,x,y⟩:=r;exact ⟨s,.val k o rest d av dB jK σ s (.inr ⟨rfl,hn⟩) a b c (.inl rfl) ⟨e,f,.inl ⟨g,h⟩⟩ x,y⟩
theorem aV.v0 (hd:zq C.N ops mem Mc k dB σ.t o=some (d,true)) (h:WV P C o ⟨dR σ.t (o.looksAt ops),Mc,dB⟩ av) (r:aV P C ops mem Mc jK e0 dB (k+1) rest (σ.put d av) Q):aV P C ops mem Mc jK e0 dB k (o::rest) σ Q:=by
 obtain ⟨a,b,c,e,f,g⟩:=EG hd;obtain ⟨s,x,y⟩:=r;exact ⟨s,.val k o rest d av dB Mc σ s (.inl rfl) a b c (.inl rfl) ⟨e,f,.inl ⟨g,h⟩⟩ x,y⟩
theorem aV.wr {M':List (Nat×AO)} {bP:Nat} (av:AV) (hm:mem.getD k false=true) (hn:Nat.ble σ.nk bP=true) (hs:bD Mc M') (hsB:Nat.blt k e0=true->bD jK M') (h:J4 P C ops o σ av M' bP) (r:aV P C ops mem Mc jK e0 dB (k+1) rest ⟨o9 o.dst true av++σ.t,M',bP⟩ Q):aV P C ops mem Mc jK e0 dB k (o::rest) σ Q:=by
 obtain ⟨s,x,y⟩:=r;exact ⟨s,.mem k o rest av M' bP σ s hm hn hs hsB h x,y⟩
theorem aV.st (hd:zq C.N ops mem jK k dB σ.t o=some (d,true)) (hn:needs ops k ops.size e0=true) (h:xW P ⟨dR σ.t (o.looksAt ops),jK,dB⟩ o.op=some av) (r:aV P C ops mem Mc jK e0 dB (k+1) rest (σ.put d av) Q):aV P C ops mem Mc jK e0 dB k (o::rest) σ Q:=aV.vl hd hn (kE rfl h) r
theorem aV.ixs {q:Nat} {rows:List (List AV)} {z:Int} (hd:zq C.N ops mem jK k dB σ.t o=some (d,true)) (hn:needs ops k ops.size e0=true) (h:aif P ⟨dR σ.t (o.looksAt ops),jK,dB⟩ o.op=some (q,rows,z)) (h0:0<=z/\z<rows.length)(r:aV P C ops mem Mc jK e0 dB (k+1) rest (σ.put d (.pt q z.toNat 0)) Q):aV P C ops mem Mc jK e0 dB k (o::rest) σ Q:=aV.vl hd hn (SQ h h0.1 h0.2) r
theorem aV.ldr {rows:List (List AV)} {i j:Nat} {r:List AV} {av:AV} (hd:zq C.N ops mem jK k dB σ.t o=some (d,true)) (hn:needs ops k ops.size e0=true) (h:aio P ⟨dR σ.t (o.looksAt ops),jK,dB⟩ o.op=some (rows,i,j)) (hi:rows[i]?=some r) (hj:r[j]?=some av) (ho2:av.own=false)(K:aV P C ops mem Mc jK e0 dB (k+1) rest (σ.put d av) Q):aV P C ops mem Mc jK e0 dB k (o::rest) σ Q:=aV.vl hd hn (JO h hi hj ho2) K
theorem aV.ldQ {rows:List (List AV)} {i j hi hj:Nat} {r:List AV} {av:AV} (hd:zq C.N ops mem jK k dB σ.t o=some (d,true)) (hn:needs ops k ops.size e0=true) (h:ao6 P ⟨dR σ.t (o.looksAt ops),jK,dB⟩ o.op=some (rows,i,j,hi,hj,av)) (e1:i=hi) (e2:j=hj) (hr:rows[i]?=some r) (hjr:j<r.length)(K:aV P C ops mem Mc jK e0 dB (k+1) rest (σ.put d av) Q):aV P C ops mem Mc jK e0 dB k (o::rest) σ Q:=aV.vl hd hn (Td h e1 e2 hr hjr) K
theorem aV.ar {φ:Prop} {z:Int} (hd:zq C.N ops mem jK k dB σ.t o=some (d,true)) (hn:needs ops k ops.size e0=true) (h:QG ⟨dR σ.t (o.looksAt ops),jK,dB⟩ o.op=some (φ,z)) (hφ:φ) (r:aV P C ops mem Mc jK e0 dB (k+1) rest (σ.put d (.sc (.int .i64 z))) Q):aV P C ops mem Mc jK e0 dB k (o::rest) σ Q:=aV.vl hd hn (uY h hφ) r
theorem aV.al {T:TypeId} {z:Value} {l:List AV} (hd:wrB mem C.N k o=some d) (ho:o.op=.alloc T) (hz:(P.info? T).bind (·.zero)=some z) (hl:z.cells.toList.map .sc=l) (hs:bD Mc ((σ.nk,.box T l)::σ.M)) (hsB:Nat.blt k e0=true->bD jK ((σ.nk,.box T l)::σ.M))(r:aV P C ops mem Mc jK e0 dB (k+1) rest ⟨(d,.pt σ.nk 0 0)::σ.t,(σ.nk,.box T l)::σ.M,σ.nk+1⟩ Q):aV P C ops mem Mc jK e0 dB k (o::rest) σ Q:=by
 obtain ⟨a,b,c,e⟩:=yU hd;have he:o9 o.dst true (.pt σ.nk 0 0)=[(d,.pt σ.nk 0 0)]:=by rw [b];rfl
 refine aV.wr (.pt σ.nk 0 0) a (pY (xZ _)) hs hsB ⟨c,λt _=>?_⟩ YM;rw [he];exact WO.alloc (σ:=⟨t,σ.M,σ.nk⟩) ho hz b e hl rfl
theorem aV.xq {T m:Nat} {x y:Operand} {q i j:Nat} {ob ob':AO} {l:List AV} {M2:List (Nat×AO)} (hm:mem.getD k false=true) (hg:o.guard=none) (hds:o.dst=none) (ho:o.op=.store T x y) (hn:fZ P T=some m) (hx:σ.ev x=some (.pt q i j)) (hk:look q σ.M=some ob) (hy:σ.ev y=some av)(hB:av.l7=true) (hl:av.cells=l) (hlm:l.length=m) (h1:l.all AV.xO=true) (hp:ob.put i j l=some ob') (hM:zu q σ.M=some M2) (hs:bD Mc ((q,ob')::M2)) (hsB:Nat.blt k e0=true->bD jK ((q,ob')::M2)) (r:aV P C ops mem Mc jK e0 dB (k+1) rest ⟨σ.t,(q,ob')::M2,σ.nk⟩ Q):aV P C ops mem Mc jK e0 dB k (o::rest) σ Q:=by
 have he:∀ av,o9 o.dst true av=[]:=λav=>by rw [hds];rfl
 refine aV.wr (.sc undef) hm (pY (Nat.le_refl _)) hs hsB ⟨hg,λt H=>?_⟩ YM;rw [he];have hmem:∀ z∈[x,y],z∈o.op.operands.toList:=λz hz=>by simp_all[Op.operands]
 rw [jE hM];exact yT (WO.store (σ:=⟨t,σ.M,σ.nk⟩) ho hds hn ((kC H (hmem x (by simp))).trans hx) hk ((kC H (hmem y (by simp))).trans hy) hB hl hlm h1 hp)
theorem aV.ct (hB:Holds B gl C) {f:FuncId} {args args':List AV} {res res':AV} {M M' M2:List (Nat×AO)} {nk bP n2:Nat} (ks:List Nat) (hd:wrB mem C.N k o=some d) (he:Vq σ o.op=some (f,args')) (hc:∀ vs w,(callFunc f vs).run P w=.ok (.enter f vs) w)(h:jr B gl P f args M nk res M' bP) (hks:ksB ks nk σ.nk=true) (ha:args.map (AV.ren (rhoC ks nk σ.nk))=args') (hp:args.all (AV.inn nk)=true) (hM:Vl σ (rhoC ks nk σ.nk) nk M)(hq:(Nat.ble nk bP && M'.all (λx=>x.2.inn bP) && M'.all (λx=>Nat.blt x.1 bP) && res.inn bP)=true) (hr:res.ren (rhoC ks nk σ.nk)=res') (hM2:DR (rhoC ks nk σ.nk) M'++Fb ks σ.M=M2) (hn2:σ.nk+(bP-nk)=n2) (hs:bD Mc M2) (hsB:Nat.blt k e0=true->bD jK M2)(r:aV P C ops mem Mc jK e0 dB (k+1) rest ⟨(d,res')::σ.t,M2,n2⟩ Q):aV P C ops mem Mc jK e0 dB k (o::rest) σ Q:=by
 subst hM2 hn2;obtain ⟨a,b,c,e⟩:=yU hd;have hent:o9 o.dst true res'=[(d,res')]:=by rw [b];rfl
 simp only [gG] at hq;unfold Vq at he;split at he
 .rename_i y xs ts ho;split at he
  .rename_i fv qP hy hx;split at he
   .rename_i f' caps hf;cases he;refine aV.wr res' a (pY (Ri _ _)) hs hsB ⟨c,λt H=>?_⟩ (by rw [hent];exact r);rw [hent];have hmem:∀ q∈y::xs,q∈o.op.operands.toList:=λq hq=>by simp_all[Op.operands,Call.operands]
    exact aso
   .cases he
  .cases he
 .cases he
theorem aV.axF {M':List (Nat×AO)} {bP:Nat} (hm:mem.getD k false=true) (hd:o.dst=some d) (hn:Nat.ble σ.nk bP=true) (hs:bD Mc M') (hsB:Nat.blt k e0=true->bD jK M') (h:DoesM P C ops o σ d av M' bP) (r:aV P C ops mem Mc jK e0 dB (k+1) rest ⟨(d,av)::σ.t,M',bP⟩ Q):aV P C ops mem Mc jK e0 dB k (o::rest) σ Q:=by
 have hent:o9 o.dst true av=[(d,av)]:=by rw [hd];rfl
 exact aV.wr av hm hn hs hsB ⟨h.1,λt H=>by rw [hent];exact h.2 t H⟩ (by rw [hent];exact r)
theorem aV.bd {T m:Nat} {parts:Array (Nat×Operand)} {ob:AO} (hd:wrB mem C.N k o=some d) (ho:o.op=.buildSlice T m parts) (h:Gg P σ T m parts.toList=some ob) (hs:bD Mc ((σ.nk,ob)::σ.M)) (hsB:Nat.blt k e0=true->bD jK ((σ.nk,ob)::σ.M)) (r:aV P C ops mem Mc jK e0 dB (k+1) rest ⟨(d,.sl σ.nk)::σ.t,(σ.nk,ob)::σ.M,σ.nk+1⟩ Q):aV P C ops mem Mc jK e0 dB k (o::rest) σ Q:=by
 obtain ⟨a,b,c,e⟩:=yU hd;unfold Gg at h;split at h
 .rename_i el hT;split at h
  .rename_i n z aW hn hz hx;cases hb:TB 0 parts.toList && Nat.beq parts.toList.length m && Nat.ble (m*n) 16777216 && Nat.ble m 16777216 && ML n aW with
   | false=>rw [hb] at h;cases h| true =>
    rw [hb] at h;simp only [gG] at hb;cases h;exact aV.axF a b (pY (xZ _)) hs hsB (DoesM.build c ho hT hn hz hb.1.1.1.1 (dG hb.1.1.1.2) hb.1.1.2 hb.1.2 b e hx hb.2 rfl rfl rfl rfl) r
  .cases h
 .cases h
theorem aV.ap {x:ag5} (hd:wrB mem C.N k o=some d) (h:Y7 P σ o.op=some x) (hl:x.a.length+x.b.length<=1000000000) (hs:bD Mc ((σ.nk,.row x.T x.n (x.a++x.b))::rem x.k σ.M)) (hsB:Nat.blt k e0=true->bD jK ((σ.nk,.row x.T x.n (x.a++x.b))::rem x.k σ.M)) (r:aV P C ops mem Mc jK e0 dB (k+1) rest ⟨(d,.sl σ.nk)::σ.t,(σ.nk,.row x.T x.n (x.a++x.b))::rem x.k σ.M,σ.nk+1⟩ Q):aV P C ops mem Mc jK e0 dB k (o::rest) σ Q:=by
 obtain ⟨a,b,c,e⟩:=yU hd;unfold Y7 at h;split at h
 .rename_i x y T T' ho;split at h
  .rename_i el q av2 hT hx hy;split at h
   .rename_i i e' n rows hi hk;split at h
    .rename_i z fQ hz hs2;cases hb:Nat.beq T T' && Nat.beq el e' && Nat.beq i.size n && Nat.beq z.cells.size n && Nat.blt 0 n && Nat.ble i.bytes 100000 with
     | false=>rw [hb] at h;cases h| true =>
      rw [hb] at h;simp only [gG] at hb;cases h;obtain ⟨⟨⟨⟨⟨b1,b2⟩,b3⟩,b4⟩,b5⟩,b6⟩:=hb;obtain rfl:=dG b1;obtain rfl:=dG b2;exact aV.axF a b (pY (xZ _)) hs hsB (DoesM.append c ho hT hi hz (dG b3) rfl (dG b4) b5 b e hx hk hy hs2 rfl hl b6 rfl rfl rfl) r
    .cases h
   .cases h
  .cases h
 .cases h
def lastB(mem:List Bool)(n e0:Nat):Bool:=(List.range n).all λi=>!Nat.blt e0 i|| !mem.getD i false
theorem WA.dt (mem:List Bool) (ms msB:List Nat) (e0:Nat) (hl:lastB mem l.length e0=true) (hB:Region.lexB .any l.toArray=true) (hch:chainB l.toArray mem=true) (SG:bD (nY σ.M ms) σ.M) (atz:bD (nY σ.M msB) σ.M)(h:aV P C l.toArray mem (nY σ.M ms) (nY σ.M msB) e0 σ.nk 0 l σ Q):WA P C l.toArray σ Q :=let ⟨_,a,b⟩:=h
 WA.ath mem (nY σ.M ms) (nY σ.M msB) e0 (λi h1 h2=>by
  have:=List.all_eq_true.1 hl i (List.mem_range.2 h2);grind[Nat.blt,pY]) hB hch SG atz a b
end
end
end Go.Proofs.YthohlofpphjofaaGreatDoor
