/- A walk that knows values as trees: a call that only looks at what is the caller's and answers plain values. -/
import Derived.Test.YthohlofpphjofaaGreatDoorJnGq
import Derived.Test.YthohlofpphjofaaGreatDoorFTGq
import Derived.Test.YthohlofpphjofaaGreatDoorLkEGq
set_option linter.unusedVariables false
set_option linter.unusedSimpArgs false
namespace Go.Proofs.YthohlofpphjofaaGreatDoor
theorem WW {p q:Prop}(k:q)(h:aS q→p:=by
 intro hq
 repeat (first|refine DK.st rfl ?_|refine DK.ar rfl rfl sV ?_|refine DK.nil ?_)
 exact hq.k):p:=h ⟨k⟩
section
open Go.RowKit
def sp(t:List UInt8):List UInt8:=32::t
def Ef (s:Int)(L:Int→Nat)(x:Stp):List UInt8:=cellS s x.1 x.2.1 x.2.2.1 x.2.2.2.1 x.2.2.2.2 (L x.1)
def stK (s:Int)(L:Int→Nat)(x:Stp):Bool:=dZ s x.1 x.2.1 x.2.2.1 x.2.2.2.1 x.2.2.2.2 (L x.1)
def oN(l:List Stp)(c:Int):Option Stp:=l.find? fun x=>x.1 == c
def QA(s:Int)(L:Int→Nat)(l:List Stp)(c:Int):List UInt8 :=
 match oN l c with
 | some x=>Ef s L x
 | none=>[45]
def F5:Int→List Stp→Prop
 | _,[]=>True
 | m,x::r=>m<x.1∧F5 x.1 r
theorem Z4 {p:aN} {i:Int}:∀ {l:List Stp} {last:Int},iW p i last l=0→F5 last l
 | [],_,_=>trivial
 | x::r,last,h=>by
  unfold iW at h
  by_cases h1:gY p i x last≠0
  ·omega
  ·rw [if_neg h1]at h
   refine⟨?_,Z4 h⟩
   grind[gY]
theorem yZ:∀ {l:List Stp} {m:Int},F5 m l→∀ x∈l,m<x.1
 | y::r,m,h,x,hx=>by
  rcases List.mem_cons.1 hx with rfl|hx
  ·exact h.1
  ·have:=yZ h.2 x hx;have:=h.1;omega
theorem Z5 {l:List Stp}:∀ {m:Int} (k:Nat)(h:k<l.length),F5 m l→∀ x∈l.take k,x.1<l[k].1:=by
 induction l with
 | nil=>simp
 | cons y r ih =>
  intro m k h ha x hx
  cases k with
  | zero=>simp at hx
  | succ k =>
   simp only [List.take_succ_cons,E8] at hx
   rcases hx with rfl|hx
   ·exact yZ ha.2 _ (by simp)
   ·simpa using ih k uT ha.2 x hx
theorem II {l:List Stp} {c:Int} (h:∀ x∈l,x.1≠c):oN l c=none:=by
 grind[oN]
theorem Zp (l:List Stp)(x:Stp)(c:Int)(h:∀ y∈l,y.1<x.1):oN (l++[x]) c=if c=x.1 then some x else oN l c:=by
 grind[oN]
theorem PX (s:Int)(L:Int→Nat)(l:List Stp)(x:Stp)(c:Int)(h:∀ y∈l,y.1<x.1):QA s L (l++[x]) c=if c=x.1 then Ef s L x else QA s L l c:=by
 grind[QA,Zp]
def cAt(s:Int)(n j:Nat):Int:=if s=2 then(n:Int)-j else(j:Int)+1
def dV (s:Int)(L:Int→Nat)(n:Nat)(l:List Stp):List (List UInt8):=(List.range n).map fun j=>QA s L l (cAt s n j)
theorem TI(s:Int)(L:Int→Nat)(n:Nat):dV s L n []=List.replicate n [45]:=by
 unfold dV
 apply jT
 all_goals simp[QA,oN]
theorem PZ (s:Int)(L:Int→Nat)(n:Nat)(l:List Stp)(x:Stp)(hs:s≠4)(h:∀ y∈l,y.1<x.1)(h1:1≤x.1)(hn:x.1≤n):dV s L n (l++[x])=(dV s L n l).set (qp s x.1 n-1).toNat (Ef s L x):=by
 apply jT
 all_goals grind[dV,PX,cAt,qp]
def nI (s:Int)(L:Int→Nat)(n:Nat)(l:List Stp):List (List UInt8) :=
 if s=2 then ((l.filter fun x=>decide ((n:Int)<x.1)).map (Ef s L)).reverse else (l.filter fun x=>decide ((n:Int)<x.1)).map (Ef s L)
theorem agV (s:Int)(L:Int→Nat)(n:Nat)(l:List Stp)(x:Stp)(h:x.1≤n):nI s L n (l++[x])=nI s L n l:=by
 grind[nI]
theorem abJ (s:Int)(L:Int→Nat)(n:Nat)(l:List Stp)(x:Stp)(h:¬ x.1≤n):nI s L n (l++[x])=if s=2 then Ef s L x::nI s L n l else nI s L n l++[Ef s L x]:=by
 grind[nI]
theorem DU(s:Int)(L:Int→Nat)(n:Nat)(l:List Stp):(nI s L n l).length≤l.length:=by
 grind[nI]
def headW (s:Int)(e:Ev):List (List UInt8):=if e.bar=true then [[124],tW e.val (oM e.dot e.three)]else [tW e.val (oM e.dot e.three)]
def dh(s:Int)(p:aN):Nat:=if s=4 then 0 else min p.cs.length 6
def rD (s:Int) (p:aN) (i:Int) (e:Ev):List (List UInt8) :=
 headW s e++(if e.tie=true then [[126]] else if e.stops.length=0 then [[37]] else
  if s=2 then nI s (fun c=>ah p.evs i c) (dh s p) e.stops++dV s (fun c=>ah p.evs i c) (dh s p) e.stops
  else dV s (fun c=>ah p.evs i c) (dh s p) e.stops++nI s (fun c=>ah p.evs i c) (dh s p) e.stops)
def ZW (l:List (List UInt8)):List UInt8:=l.flatMap sp
def jM:List (List UInt8)→List UInt8
 | []=>[]
 | x::r=>x++ZW r
theorem Hq (l:List (List UInt8)):Lib.join l [32]=jM l:=by
 cases l with
 | nil=>rfl
 | cons x r =>
  rw [Lib.join_cons]
  show x++Lib.joinTail [32] r=x++r.flatMap sp
  unfold Lib.joinTail
  rw [List.flatMap_def];rfl
def colS (s:Int)(p:aN)(i:Int)(e:Ev):List UInt8:=jM (rD s p i e)
def BR (s:Int)(e:Ev):List UInt8:=(if e.bar=true then [124,32]else [])++tW e.val (oM e.dot e.three)
theorem XW (s:Int)(e:Ev)(r:List (List UInt8)):jM (headW s e++r)=BR s e++ZW r:=by
 grind[headW,BR,jM,ZW,sp]
theorem XC {l:List Stp} {c:Int}:∀ {m:Int},F5 m l→(l.filter fun x=>decide (x.1≤c+1))=(l.filter fun x=>decide (x.1≤c))++(oN l (c+1)).toList:=by
 induction l with
 | nil=>intro m _;rfl
 | cons x r ih =>
  intro m ha
  by_cases h1:x.1≤c
  ·have e:oN (x::r) (c+1)=oN r (c+1):=by
    grind[oN]
   rw [LC (by simp;omega),LC pz,e,ih ha.2];rfl
  ·have hr:∀ y∈r,¬ y.1≤c+1:=fun y hy=>by have:=yZ ha.2 y hy;omega
   grind[LX,oN,II]
theorem yI {l:List Stp} {c:Int} {x:Stp} (h:oN l c=some x):x∈l∧x.1=c:=by
 grind[oN]
theorem GL(s c f r g h L:Int)(hs:1≤s∧s≤4)(hc:1≤c∧c≤14)(hf:0≤f∧f≤18):(cellS s c f r g h L).length≤12:=by
 grind[cellS,abP,acd,ab8,abM]
theorem ahx:((List.range' 1 4).all fun s=>(List.range' 1 14).all fun c=>(List.range 19).all fun f=>!(Gv (s:Nat) (c:Nat) (f:Nat))|| (match pS (s:Nat) (c:Nat) (f:Nat)with|x::_=>x != 45|[]=>false))=true:=by
 decide +kernel
theorem QE (s c f r g h L:Int)(hs:1≤s∧s≤4)(hc:1≤c∧c≤14)(hf:0≤f∧f≤18)(ho:Gv s c f=true):cellS s c f r g h L≠[45]:=by
 obtain⟨s,rfl⟩:=dP (show 0≤s by omega)
 obtain⟨c,rfl⟩:=dP (show 0≤c by omega)
 obtain⟨f,rfl⟩:=dP hf.1
 have h:=ahx
 rw [jS]at h
 have h1:=h s (List.mem_range'_1.2 aj)
 rw [jS]at h1
 have h2:=h1 c (List.mem_range'_1.2 aj)
 rw [jS]at h2
 have h3:=h2 f (List.mem_range.2 aj)
 grind[cellS]
theorem akU {s:Int} {p:aN} {i:Int} {e:Ev} (h:jO s p i e=[]):∀ x∈e.stops,stK s (fun c=>ah p.evs i c) x=true:=fun x hx=>by
 unfold jO at h
 have h1:=(List.append_eq_nil_iff.1 h).2
 rw [List.flatMap_eq_nil_iff] at h1
 have h2:=h1 x hx
 unfold gI at h2
 by_cases e1:Gv s x.1 x.2.1=false
 all_goals simp_all[kH,stK,dZ]
theorem Lc {n:Nat}:∀ {l:List (List UInt8)},(∀ t∈l,t.length≤n)→(ZW l).length≤(n+1)*l.length
 | [],_=>by simp [ZW]
 | x::r,h=>by
  have h1:=Lc (l:=r) fun t ht=>h t (by simp [ht])
  grind[ZW,Nat.mul_succ,sp]
def Gh.fpk(G:Gh)(k:Nat)(φ:Nat→Prop):Gh:=⟨G.F,G.b,G.n,G.h,fun q=>if q=k then φ else G.fp q⟩
theorem fpk_le (G:Gh)(k:Nat)(φ:Nat→Prop)(nk:Nat):G.le (G.fpk k φ) nk:=⟨fun _ _ h=>h,fun _ _=>rfl,fun _ _=>rfl,fun _ _=>rfl⟩
theorem fpk_same {G:Gh} {k:Nat} {φ:Nat→Prop}:(G.fpk k φ).fp k=φ:=if_pos rfl
theorem fpk_other {G:Gh} {k q:Nat} {φ:Nat→Prop} (h:q≠k):(G.fpk k φ).fp q=G.fp q:=if_neg h
section
variable {B:World→View→Prop} {gl:Nat} {P:Program} {C:Cx} {σ σ':St} {G G':Gh} {a:Act} {w w':World} {o:Oper} {d:Tmp} {ops:Array Oper} {rest:List Oper} {Q:Exit→St→Prop}
theorem Ok.refp (ok:Ok C σ G a w) {k:Nat} {ob ob':AO} {φ:Nat→Prop} (hk:look k σ.M=some ob) (hob:ObAt (G.fpk k φ) w k ob') (hbd:ob'.bd σ.nk)
  (hφ:∀ x,φ x→C.may x∧x<w.heap.size∧(∀ i o,i≠k→look i σ.M=some o→¬ G.fp i x)∧∀ p u,G.F p=some u→p.block≠x):Ok C (σ.upd k ob') (G.fpk k φ) a w:=by
 have hl:∀ k' o,look k' (σ.upd k ob').M=some o→(k'=k∧o=ob')∨(k'≠k∧look k' σ.M=some o):=fun k' o hx=>by
  exact afe
 refine ⟨ok.sz,ok.df,fun i av h=>⟨(ok.tm i av h).1,(ok.tm i av h).2.1,(ok.tm i av h).2.2.mono (fpk_le G k φ σ.nk) (ok.tm i av h).2.1⟩,ok.bel,ok.fw,ok.f0,ok.f1,fun i o h=>?_,fun i o x h1 h2=>?_,fun i o i' o' x h1 h2 h3 h4=>?_,fun i o x p u h1 h2 h3=>?_⟩
 ·rcases hl i o h with⟨rfl,rfl⟩|⟨e,y⟩
  ·exact ⟨(ok.ob i _ hk).1,hbd,hob⟩
  ·obtain ⟨a1,a2,a3⟩:=ok.ob i o y
   exact ⟨a1,a2,a3.keep (fpk_le G k φ σ.nk) a1 a2 (fpk_other e) fun _ _=>rfl⟩
 ·rcases hl i o h1 with⟨rfl,rfl⟩|⟨e,y⟩
  ·simp_all[fpk_same]
  ·rw [fpk_other e] at h2;exact ok.my i o x y h2
 ·rcases hl i o h1 with⟨rfl,rfl⟩|⟨e,y⟩
  ·rcases hl i' o' h2 with⟨rfl,rfl⟩|⟨e',y'⟩
   all_goals simp_all[fpk_same,fpk_other]
  ·rcases hl i' o' h2 with⟨rfl,rfl⟩|⟨e',y'⟩
   ·simp_all[fpk_same,fpk_other]
   ·rw [fpk_other e] at h3
    rw [fpk_other e'] at h4
    exact ok.dj i o i' o' x y y' h3 h4
 ·rcases hl i o h1 with⟨rfl,rfl⟩|⟨e,y⟩
  ·rw [fpk_same] at h2;exact (hφ x h2).2.2.2 p u h3
  ·rw [fpk_other e] at h2;exact ok.dF i o x p u y h2 h3
theorem RowIs.open_ {F:View} {T n:Nat} {rows:List (List AV)} {v:Value} {φ:Nat→Prop} (h:RowIs w T n rows v φ (XO F w)) {i j:Nat} {r:List AV} {av:AV} (hr:rows[i]?=some r) (hj:r[j]?=some av) :
  ∃ u ψ,OW F w av u ψ∧(∀ x,ψ x→φ x)∧u.oneCell'=true∧∀ (X:Nat→Nat→(Nat→Prop)→AV→Value→Prop),(∀ χ,X i j χ av u)→(∀ q s χ y z,¬ (q=i∧s=j)→OW F w y z χ→X q s χ y z)→RowIs w T n rows v (fun x=>φ x∧¬ ψ x) X:=by
 obtain ⟨h1,vs,Φ,h2,h3,h4,h5,h6,h7,h8,h9⟩:=h
 have hi:i<rows.length:=(List.getElem?_eq_some_iff.1 hr).1
 have hv:vs[i]?=some vs[i]:=aB (by omega)
 have e1:=h8 i r _ hr hv
 have hjl:j<vs[i].length:=by grind
 have hu:vs[i][j]?=some vs[i][j]:=aB hjl
 refine ⟨vs[i][j],Φ i j,h9 i r _ j av _ hr hv hj hu,fun x hx=>(h6 i j x hx).1,h4 _ (fA _) _ (fA _),fun X hX hO=>?_⟩
 refine ⟨h1,vs,fun q s x=>¬ (q=i∧s=j)∧Φ q s x,h2,h3,h4,fun g hg=>⟨h5 g hg,fun hx=>(h6 i j g hx).2 hg⟩,fun q s x hx=>⟨⟨(h6 q s x hx.2).1,fun hy=>hx.1 ((h7 q s i j x hx.2 hy))⟩,(h6 q s x hx.2).2⟩,fun q s q' s' x hx hy=>h7 q s q' s' x hx.2 hy.2,h8,fun q r1 r2 s y z a1 a2 a3 a4=>?_⟩
 by_cases e:q=i∧s=j
 ·grind
 ·have:(fun x=>¬ (q=i∧s=j)∧Φ q s x)=Φ q s:=by
   funext x
   exact propext ⟨fun hx=>hx.2,fun hx=>⟨e,hx⟩⟩
  show X q s (fun x=>¬ (q=i∧s=j)∧Φ q s x) y z
  rw [this]
  exact hO q s _ y z e (h9 q r1 r2 s y z a1 a2 a3 a4)
theorem Tr.open_ (k i j:Nat) {T n T' n' m:Nat} {rows rows':List (List AV)} {r:List AV} (hk:look k σ.M=some (.rwn T n rows)) (hr:rows[i]?=some r) (hj:r[j]?=some (.ow T' n' rows')) (hp:∀ q∈rows',∀ av∈q,av.own=false) (hm:σ.nk=m) :
  Tr C σ ((σ.new (.row T' n' rows')).upd k (.rwo T n rows i j (.sl m))):=fun G a w ok=>by
 subst hm
 obtain ⟨g1,_,g3,g4,g5⟩:=ok.ob k _ hk
 obtain ⟨u,ψ,hO,hψ,hone,hX⟩:=g5.open_ hr hj
 have hR:=hO.row
 have ok1:=ok.refp (φ:=fun x=>G.fp k x∧¬ ψ x) (ob':=.rwo T n rows i j (.sc u)) hk ⟨g3,g4,by
  rw [fpk_same]
  refine hX (XQ (G.fpk k _) w i j (.sc u)) (fun χ=>?_) fun q s χ y z hne hy=>?_
  ·unfold XQ
   rw [if_pos ⟨rfl,rfl⟩]
   exact .pu _ _ (.sc u)
  ·unfold XQ
   rw [if_neg hne]
   exact hy⟩ (.sc u) fun x hx=>⟨(ok.my k _ x hk hx.1).1,(ok.my k _ x hk hx.1).2,fun q oq hq h1 h2=>hq (ok.dj q oq k _ x h1 hk h2 hx.1),fun p v=>ok.dF k _ x p v hk hx.1⟩
 have ok2:=ok1.newObj (S:=fun _=>False) (b:=u.ownBlock.getD 0) (n:=n') (h:=u) (φ:=ψ) (ob:=.row T' n' rows') (Kept.refl _ w) (fun _ h=>h.elim) (fun _ _ _ _ _ h=>h) (fun _ _ _ h=>h)
  ⟨with_n,(fun g hg=>by simp_all[with_h,with_b]),by
   rw [with_h,with_f]
   exact hR.keep (fun _ _=>rfl) fun q rr s av χ z a1 a2 _ x=>OW.p x (hp rr (aY a1) av (aY a2))⟩ trivial
  (fun x hx=>⟨(ok.my k _ x hk (hψ x hx)).1,(ok.my k _ x hk (hψ x hx)).2,fun q oq h1 h2=>by
   by_cases e:q=k
   ·subst e
    rw [fpk_same] at h2
    exact h2.2 hx
   ·rw [fpk_other e] at h2
    rw [show look q (σ.upd k _).M=look q σ.M from look_set_other e] at h1
    exact e (ok.dj q oq k _ x h1 hk h2 (hψ x hx)),fun p v h1=>ok.dF k _ x p v hk (hψ x hx) h1⟩)
 have hkn:k≠(σ.upd k (.rwo T n rows i j (.sc u))).nk:=Nat.ne_of_lt g1
 have hk2:look k ((σ.upd k (.rwo T n rows i j (.sc u))).new (.row T' n' rows')).M=some (.rwo T n rows i j (.sc u)):=(look_set_other hkn).trans look_set_same
 obtain ⟨b1,b2,b3,b4,b5⟩:=ok2.ob k _ hk2
 have ok3:=ok2.reob (ob':=.rwo T n rows i j (.sl σ.nk)) hk2 ⟨b1,.sl _ (ou _),b3,b4,b5.keep (fun _ _=>rfl) fun q rr s av χ z _ _ _ x=>by
  unfold XQ at x ⊢
  by_cases e:q=i∧s=j
  ·rw [if_pos e] at x ⊢
   rw [x.sc_eq]
   exact with_sl hone
  ·rw [if_neg e] at x ⊢
   exact x⟩
 have hl:∀ q,look q ((σ.new (.row T' n' rows')).upd k (.rwo T n rows i j (.sl σ.nk))).M=look q (((σ.upd k (.rwo T n rows i j (.sc u))).new (.row T' n' rows')).upd k (.rwo T n rows i j (.sl σ.nk))).M:=fun q=>by
  by_cases e:q=k
  ·subst e;exact look_set_same.trans look_set_same.symm
  ·refine (look_set_other e).trans (Eq.trans ?_ (look_set_other e).symm)
   by_cases e2:q=σ.nk
   ·subst e2;exact look_set_same.trans look_set_same.symm
   ·exact (look_set_other e2).trans ((look_set_other e2).trans (look_set_other e)).symm
 exact ⟨_,ok3.sz,ok3.df,ok3.tm,ok3.bel,ok3.fw,ok3.f0,ok3.f1,fun q x hx=>ok3.ob q x A8,fun q x y hx=>ok3.my q x y A8,fun q x q' x' y hx hx'=>ok3.dj q x q' x' y A8 (by rw [← hl];exact hx'),fun q x y p u hx=>ok3.dF q x y p u A8⟩
theorem Tr.close_ (k:Nat) {T n T' n' m i j:Nat} {rows rows' rows2:List (List AV)} {r:List AV} (hk:look k σ.M=some (.rwo T n rows i j (.sl m))) (hm:look m σ.M=some (.row T' n' rows')) (hkm:Nat.beq k m=false) (hr:rows[i]?=some r) (hj:j<r.length) (he:rows.set i (r.set j (.ow T' n' rows'))=rows2) :
  Tr C σ ((σ.drop m).upd k (.rwn T n rows2)):=fun G a w ok=>by
 subst he
 have hne:k≠m:=fun e=>by simp_all
 obtain ⟨g1,_,g3,g4,g5⟩:=ok.ob k _ hk
 obtain ⟨m1,_,m3,m4,m5⟩:=ok.ob m _ hm
 have okd:=ok.drop_ m
 have hkd:look k (σ.drop m).M=some (.rwo T n rows i j (.sl m)):=by
  show look k (rem m σ.M)=_
  simp_all[look_rem]
 have hIn:OW G.F w (.ow T' n' rows') (G.h m) (G.fp m):=(m5.keep (X':=XO G.F w) (fun _ _=>rfl) fun q rr s av χ z _ _ _ x=>.pu _ _ _ x).ow
 have hi:i<rows.length:=(List.getElem?_eq_some_iff.1 hr).1
 have hdj:∀ x,G.fp k x→G.fp m x→False:=fun x h1 h2=>hne (ok.dj k _ m _ x hk hm h1 h2)
 refine ⟨G.fpk k (fun x=>G.fp k x∨G.fp m x),okd.refp hkd ⟨g3,g4,?_⟩ trivial fun x hx=>?_⟩
 ·rw [fpk_same]
  obtain ⟨h1,vs,Φ,h2,h3,h4,h5,h6,h7,h8,h9⟩:=g5
  have key:∀ q s,(if q=i∧s=j then (fun (_:Unit)=>G.fp m) else (fun _=>Φ q s)) ()=fun x=>(q=i∧s=j∧G.fp m x)∨(¬ (q=i∧s=j)∧Φ q s x):=fun q s=>by
   by_cases e:q=i∧s=j
   ·rw [if_pos e]
    funext x
    exact propext ⟨fun h=>.inl ⟨e.1,e.2,h⟩,fun h=>h.elim (fun y=>y.2.2) fun y=>absurd e y.1⟩
   ·rw [if_neg e]
    funext x
    exact propext ⟨fun h=>.inr ⟨e,h⟩,fun h=>h.elim (fun y=>absurd ⟨y.1,y.2.1⟩ e) fun y=>y.2⟩
  refine ⟨fun q hq=>?_,vs,fun q s x=>(q=i∧s=j∧G.fp m x)∨(¬ (q=i∧s=j)∧Φ q s x),h2,by simpa using h3,h4,fun g hg=>.inl (h5 g hg),fun q s x hx=>?_,fun q s q' s' x hx hy=>?_,fun q r1 r2 a1 a2=>?_,fun q r1 r2 s y z a1 a2 a3 a4=>?_⟩
  ·rcases LH hq with hq|rfl
   ·exact h1 q hq
   ·rw [I9];exact h1 r (aY hr)
  ·rcases hx with⟨_,_,hx⟩|⟨_,hx⟩
   ·exact ⟨.inr hx,fun e=>hdj x (h5 x e) hx⟩
   ·exact ⟨.inl (h6 q s x hx).1,(h6 q s x hx).2⟩
  ·rcases hx with⟨e1,e2,hx⟩|⟨_,hx⟩
   ·rcases hy with⟨e3,e4,hy⟩|⟨_,hy⟩
    ·exact ⟨e1.trans e3.symm,e2.trans e4.symm⟩
    ·exact (hdj x (h6 _ _ x hy).1 hx).elim
   ·rcases hy with⟨e3,e4,hy⟩|⟨_,hy⟩
    ·exact (hdj x (h6 _ _ x hx).1 hy).elim
    ·exact h7 q s q' s' x hx hy
  ·by_cases e:i=q
   ·subst e
    rw [ny hi] at a1
    cases a1
    rw [I9];exact h8 i r r2 hr a2
   ·rw [lF e] at a1
    exact h8 q r1 r2 a1 a2
  ·show OW G.F w y z (fun x=>(q=i∧s=j∧G.fp m x)∨(¬ (q=i∧s=j)∧Φ q s x))
   rw [← key q s]
   by_cases e:i=q
   ·subst e
    rw [ny hi] at a1
    cases a1
    by_cases e2:j=s
    ·subst e2
     rw [ny hj] at a3
     cases a3
     rw [if_pos ⟨rfl,rfl⟩]
     have:=h9 i r r2 j r[j] z hr a2 (aB hj) a4
     unfold XQ at this
     rw [if_pos ⟨rfl,rfl⟩] at this
     rw [this.sl_of.1]
     exact hIn
    ·rw [lF e2] at a3
     rw [if_neg (fun h=>e2 h.2.symm)]
     have:=h9 i r r2 s y z hr a2 a3 a4
     unfold XQ at this
     rw [if_neg (fun h=>e2 h.2.symm)] at this
     exact this
   ·rw [lF e] at a1
    rw [if_neg (fun h=>e h.1.symm)]
    have:=h9 q r1 r2 s y z a1 a2 a3 a4
    unfold XQ at this
    rw [if_neg (fun h=>e h.1.symm)] at this
    exact this
 ·have old:∀ q oq,look q σ.M=some oq→(q=k∨q=m)→G.fp q x→C.may x∧x<w.heap.size∧(∀ i o,i≠k→look i (σ.drop m).M=some o→¬ G.fp i x)∧∀ p u,G.F p=some u→p.block≠x:=fun q oq hq hkq hx=>by
   refine ⟨(ok.my q oq x hq hx).1,(ok.my q oq x hq hx).2,fun i' o' hi' h1 h2=>?_,fun p u=>ok.dF q oq x p u hq hx⟩
   obtain ⟨d1,d2⟩:=drop_look h1
   have:=ok.dj i' o' q oq x d2 hq h2 hx
   rcases hkq with e|e
   ·exact hi' (this.trans e)
   ·exact d1 (this.trans e)
  rcases hx with hx|hx
  ·exact old k _ hk (.inl rfl) hx
  ·exact old m _ hm (.inr rfl) hx
def stQV (P:Program)(σ:St):Op→Option (Nat×TypeId×Nat×List (List AV)×Nat×Nat×AV)
 | .store T x y =>
  match σ.ev x,σ.ev y with
  | some (.pt k i j),some av =>
   match sizeB P T,look k σ.M with
   | some 1,some (.rwn T' n rows)=>bif av.oneB then some (k,T',n,rows,i,j,av)else none
   | _,_=>none
  | _,_=>none
 | _=>none
def stRV (P:Program)(σ:St):Op→Option (Nat×TypeId×Nat×List (List AV)×Nat×Nat×Nat×Nat×AV)
 | .store T x y =>
  match σ.ev x,σ.ev y with
  | some (.pt k i j),some av =>
   match sizeB P T,look k σ.M with
   | some 1,some (.rwo T' n rows hi hj _)=>bif av.oneB then some (k,T',n,rows,i,j,hi,hj,av)else none
   | _,_=>none
  | _,_=>none
 | _=>none
theorem WV.ldQ {T T' n:Nat} {x:Operand} {k i j:Nat} {rows:List (List AV)} {r:List AV} {av:AV} (ho:o.op=.load T x)(hT:aggB P T=some false)(hx:σ.ev x=some (.pt k i j))(hk:look k σ.M=some (.rwo T' n rows i j av))(hr:rows[i]?=some r)(hj:j<r.length):WV P C o σ av :=
 WV.val (fun G a w ok=>(ok.ob k _ hk).2.1) fun G a w ok=>by
  obtain⟨p,e,h1,h2,h3⟩:=(ok.evr hx).2.pt_of
  obtain rfl:=addr_eq h1 h2 h3
  obtain⟨hn,hg,hR⟩:=(ok.ob k _ hk).2.2
  obtain⟨u,hu,ψ,hX⟩:=hR.cell_at hg hr (aB hj)
  simp_all[XQ,execOp,run_load1]
def ldqV (P:Program)(σ:St):Op→Option (List (List AV)×Nat×Nat×Nat×Nat×AV)
 | .load T x =>
  match aggB P T,σ.ev x with
  | some false,some (.pt k i j) =>
   match look k σ.M with
   | some (.rwo _ _ rows hi hj av)=>some (rows,i,j,hi,hj,av)
   | _=>none
  | _,_=>none
 | _=>none
theorem ldqV_O {rows:List (List AV)} {i j hi hj:Nat} {r:List AV} {av:AV} (h:ldqV P σ o.op=some (rows,i,j,hi,hj,av))(e1:i=hi)(e2:j=hj)(hr:rows[i]?=some r)(hjr:j<r.length):WV P C o σ av:=by
 subst e1 e2
 unfold ldqV at h
 grind[WV.ldQ]
def Lent (C:Cx)(σ:St)(av av':AV):Prop:=∀ G a w,Ok C σ G a w→∀ v,R G av v→RP (fun q=>w.cell? q) av' v
inductive Lents (C:Cx) (σ:St):List AV→List AV→Prop
 | nil:Lents C σ [] []
 | cons {x y:AV} {l m:List AV}:Lent C σ x y→Lents C σ l m→Lents C σ (x::l) (y::m)
theorem Lents.at_ {l m:List AV} (h:Lents C σ l m):l.length=m.length∧∀ (i:Nat)y,m[i]?=some y→∃ x,l[i]?=some x∧Lent C σ x y:=by
 induction h<;>grind
theorem Lent.pu {av:AV} (hp:av.pu2=true):Lent C σ av av:=fun G a w ok v h=>RP.mono (fun p u x=>ok.fw p u x) ((pu2_bd hp 0).rp h)
theorem Lent.row {k T n:Nat} {rows:List (List AV)} (hk:look k σ.M=some (.row T n rows)):Lent C σ (.sl k) (.ls n rows):=fun G a w ok v h=>by
 rw [h.sl_of.1]
 obtain ⟨_,_,hob⟩:=ok.ob k _ hk
 have:=RowIs.fix (F':=fun q=>w.cell? q) id hob.2.2 (fun _ _=>rfl) fun i r j av u ψ _ _ _ x=>RP.mono (fun p u x=>ok.fw p u x) x
 exact jy
theorem RowIs.fixQ {T n:Nat} {rows rows':List (List AV)} {v:Value} {φ:Nat→Prop} {X:Nat→Nat→(Nat→Prop)→AV→Value→Prop} {F':View} (h:RowIs w T n rows v φ X)(hl:rows'.length=rows.length)(hln:∀ r∈rows',r.length=n)
  (hX:∀ (i:Nat) r (j:Nat) av u ψ,rows'[i]?=some r→r[j]?=some av→(∀ r0 av0,rows[i]?=some r0→r0[j]?=some av0→X i j ψ av0 u)→RP F' av u)(hF:∀ p,φ p.block→F' p=w.cell? p):RP F' (.ls n rows') v:=by
 have hrl:=h.1
 have h':RowIs w T n rows' v φ (fun i j ψ av u=>∀ r0 av0,rows[i]?=some r0→r0[j]?=some av0→X i j ψ av0 u):=by
  obtain⟨h1,vs,Φ,h2,h3,h4,h5,h6,h7,h8,h9⟩:=h
  refine⟨hln,vs,Φ,h2,by rw [hl];exact h3,h4,h5,h6,h7,fun i r r' a1 a2=>?_,fun i r r' j av u a1 a2 a3 a4 r0 av0 b1 b2=>h9 i r0 r' j av0 u b1 a2 b2 a4⟩
  grind
 have:=RowIs.fix (F':=F') id h' hF fun i r j av u ψ hr hav _ x=>hX i r j av u ψ hr hav x
 simpa using this
theorem Lent.rwo (dp:Nat) {k T n i j:Nat} {rows rows':List (List AV)} {r:List AV} {x x':AV} (hk:look k σ.M=some (.rwo T n rows i j x)) (hx:Lent C σ x x') (hs:∀ r∈rows,∀ av∈r,av.shal dp=true) (hr:rows[i]?=some r) (hj:j<r.length)
  (he:(rows.map fun r=>r.map (AV.fz dp)).set i ((r.map (AV.fz dp)).set j x')=rows'):Lent C σ (.sl k) (.ls n rows'):=fun G a w ok v h=>by
 rw [h.sl_of.1,← he]
 obtain ⟨_,_,hob⟩:=ok.ob k _ hk
 have hi:i<rows.length:=(List.getElem?_eq_some_iff.1 hr).1
 have hrl:=hob.2.2.1
 refine RowIs.fixQ hob.2.2 (by simp) (fun q hq=>?_) (fun q r1 s av u ψ a1 a2 a3=>?_) (fun _ _=>rfl)
 ·grind
 ·by_cases e:i=q
  ·subst e
   rw [ny (by simpa using hi)] at a1
   cases a1
   by_cases e2:j=s
   ·subst e2
    rw [ny yR] at a2
    cases a2
    have:=a3 r r[j] hr (aB hj)
    unfold XQ at this
    rw [if_pos ⟨rfl,rfl⟩] at this
    exact hx G a w ok u this
   ·rw [lF e2,bC] at a2
    cases h0:r[s]? with
    | none=>simp [h0] at a2
    | some av0 =>
     simp only [h0,kG,Option.some.injEq] at a2
     subst a2
     have:=a3 r av0 hr h0
     unfold XQ at this
     rw [if_neg (fun h=>e2 h.2.symm)] at this
     exact OW.fix (fun p u x=>ok.fw p u x) dp this (fun _ _=>rfl) (hs r (aY hr) av0 (aY h0))
  ·rw [lF e,bC] at a1
   cases h0:rows[q]? with
   | none=>simp [h0] at a1
   | some r0 =>
    simp only [h0,kG,Option.some.injEq] at a1
    subst a1
    rw [bC] at a2
    cases h1:r0[s]? with
    | none=>simp [h1] at a2
    | some av0 =>
     simp only [h1,kG,Option.some.injEq] at a2
     subst a2
     have:=a3 r0 av0 h0 h1
     unfold XQ at this
     rw [if_neg (fun h=>e h.1.symm)] at this
     exact OW.fix (fun p u x=>ok.fw p u x) dp this (fun _ _=>rfl) (hs r0 (aY h0) av0 (aY h1))
theorem Lent.ag {l m:List AV} (h:Lents C σ l m):Lent C σ (.ag l) (.ag m):=fun G a w ok v hv=>by
 obtain ⟨cs,rfl,h1,h2⟩:=hv.ag_of
 obtain ⟨q1,q2⟩:=h.at_
 refine .ag _ cs aj fun i av u x y=>?_
 obtain ⟨b,hb,hL⟩:=q2 i av x
 exact hL G a w ok u (h2 i b u hb y)
theorem WV.lendX (hB:Holds B gl C) {f:FuncId} {xs:Array Operand} {ts:Array TypeId} {args args':List AV} {res:Value} (ho:o.op=.call { callee:=.value (.func f),args:=xs,argTypes:=ts }) (hc:∀ vs w,(callFunc f vs).run P w=.ok (.enter f vs) w)
  (hx:σ.evs xs.toList=some args) (hl:Lents C σ args args') (hst:∀ w F F',View.le F F'→B w F→B w F') (h:Ctg B P f args' (.sc res)):WV P C o σ (.sc res):=by
 intro G a w ok N Q' hN
 obtain ⟨e1,e2⟩:=ok.evl hx
 obtain ⟨q1,q2⟩:=hl.at_
 have hF:G.F.le fun q=>w.cell? q:=fun p u x=>ok.fw p u x
 have hcalls:=h w (fun q=>w.cell? q) (xs.toList.map a.eval) (hst w _ _ hF (hB.1 w G.F ok.bel ok.f0)) (fun _ _ x=>x) ⟨by rw [e1,q1],fun i av u p q=>by
  obtain ⟨b,hb,hL⟩:=q2 i av p
  exact hL G a w ok u (e2 i b u hb q)⟩
 refine fU ?_
 have ev:a.eval (.func f)=.func (.func f) #[] #[]:=rfl
 have e3:(#[]++xs.map a.eval++#[]:Array Value)=(xs.toList.map a.eval).toArray:=by apply uI;simp
 simp only [ho,resolve,ev,Deferred.ofValue,invoke,Sem.run_bind,Sem.run_pure,Result.andThen_ok,hc,Oper.upon,e3]
 refine hcalls.mono fun e w1 ⟨v,F',he,hb,h1,h2,h3,h4⟩=>?_
 subst he
 have hv:=h4.sc_eq
 subst hv
 exact hN _ { G with F:=G.F } w1 (fun σ'' a'' ok''=>ok''.called hb (fun _ _ x=>x) (fun p u x=>by rw [hb.cell (cell_block (ok.fw p u x))];exact ok.fw p u x) (fun _ _ x=>.inl x)) (.pu _ _ (.sc _)) (RP.bd (F:=G.F) (.sc _) _)
end
section
variable {B:World→View→Prop} {gl:Nat} {P:Program} {C:Cx} {ops:Array Oper} {rest:List Oper} {σ σ':St} {G G':Gh} {a:Act} {w w':World} {o:Oper} {d:Tmp} {Q:Exit→St→Prop}
theorem acn {F:View}:∀ {l:List AV} {xs:List Value},scs l=some xs→xs.length=l.length∧∀ (i:Nat) av u,l[i]?=some av→xs[i]?=some u→RP F av u
 | [],xs,h=>by cases h;simp
 | x::r,xs,h=>by
  cases x with
  | sc v =>
   cases hr:scs r with
   | none=>simp [scs,hr] at h
   | some vs =>
    simp [scs,hr] at h
    subst h
    obtain⟨g1,g2⟩:=acn (F:=F) hr
    refine⟨by simp [g1],fun i av u p q=>?_⟩
    cases i with
    | zero=>cases p;cases q;exact .sc _
    | succ i=>grind
  | _=>simp [scs] at h
theorem acj {F:View} {av:AV} {v:Value} (h:plV av=some v):RP F av v:=by
 cases av with
 | sc x=>cases h;exact .sc _
 | ag l =>
  cases hs:scs l with
  | none=>simp [plV,hs] at h
  | some xs =>
   simp [plV,hs] at h
   subst h
   obtain⟨g1,g2⟩:=acn (F:=F) hs
   exact .ag l _ (by simpa using g1) fun i av u p q=>g2 i av u p pF
 | _=>cases h
theorem aci {F:View}:∀ {l:List AV} {xs:List Value},plL l=some xs→xs.length=l.length∧∀ (i:Nat) av u,l[i]?=some av→xs[i]?=some u→RP F av u
 | [],xs,h=>by cases h;simp
 | x::r,xs,h=>by
  unfold plL at h
  split at h
  ·rename_i v vs h1 h2
   cases h
   obtain⟨g1,g2⟩:=aci (F:=F) h2
   grind[acj]
  ·cases h
def plT:AV→Option Value
 | .tu l =>
  match plL l with
  | some xs=>some (.tuple xs.toArray)
  | none=>none
 | av=>plV av
theorem D6 {F:View} {av:AV} {v:Value} (h:plT av=some v):RP F av v:=by
 cases av with
 | tu l =>
  cases hs:plL l with
  | none=>simp [plT,hs] at h
  | some xs =>
   simp [plT,hs] at h
   subst h
   obtain⟨g1,g2⟩:=aci (F:=F) hs
   exact .tu l _ (by simpa using g1) fun i av u p q=>g2 i av u p pF
 | _=>exact acj h
theorem akz {F:View} {av:AV} {u v:Value} (h:plT av=some v)(r:RP F av u):u=v:=by
 cases av with
 | tu l =>
  cases hs:plL l with
  | none=>simp [plT,hs] at h
  | some xs =>
   simp [plT,hs] at h
   subst h
   obtain⟨cs,rfl,h1,h2⟩:=(R.pu (G:=⟨F,fun _=>0,fun _=>0,fun _=>undef,fun _ _=>False⟩) _ _ r).tu_of
   have e:cs.toList=xs:=SY (F:=F) hs pz fun i av u p q=>by
    have:=h2 i av u p pF
    exact (by
     cases r<;>grind)
   subst e
   simp
 | sc x=>exact S9 (av:=.sc x) h r
 | ag l=>exact S9 (av:=.ag l) h r
 | _=>cases h
theorem WV.amc {x:Operand} {l:List AV} (ho:o.op=.nilCheck x)(hx:σ.ev x=some (.pr l)):WV P C o σ (.pr l) :=
 WV.val (fun G a w ok=>(ok.evr hx).1) fun G a w ok=>by
  have r:=(ok.evr hx).2
  obtain⟨p,u,ep,_,_⟩:=r.pr_of.pr_of
  simp_all[execOp]
theorem Lent.prs {k:Nat} {T:TypeId} {cells:List AV} {l:List AV} (hk:look k σ.M=some (.box T cells)) (hl:∀ (j:Nat) x,l[j]?=some x→cells[j]?=some x) (ho:∀ x∈l,onB x=true):Lent C σ (.pt k 0 0) (.pr l):=fun G a w ok v h=>by
 have hF:G.F.le fun q=>w.cell? q:=fun p u x=>ok.fw p u x
 obtain ⟨p,rfl,h1,h2,h3⟩:=h.pt_of
 have hcell:∀ (j:Nat) av,l[j]?=some av→∃ u,w.cell? (p.add j)=some u∧u.oneCell'=true∧RP G.F av u:=fun j av hj=>by
  have hb:=ho av (aY hj)
  have ho:av.own=false:=by cases av<;>first|rfl|cases hb
  obtain ⟨u,hu,hr,_⟩:=ok.cell (i:=0) (j:=0) (l:=cells) hk rfl (hl j av hj) h1 h2 h3 ho
  grind[onB_of]
 refine .pr l p (fun j=>(w.cell? (p.add j)).getD undef) (fun j av hj=>?_) (fun j av hj=>?_)
 ·grind
 exact aed
theorem WV.ahZ (hB:Holds B gl C) {f:FuncId} {xs:Array Operand} {ts:Array TypeId} {args args':List AV} {res:AV} {rv:Value} (ho:o.op=.call { callee:=.value (.func f),args:=xs,argTypes:=ts }) (hc:∀ vs w,(callFunc f vs).run P w=.ok (.enter f vs) w)
  (hx:σ.evs xs.toList=some args) (hl:Lents C σ args args') (hst:∀ w F F',View.le F F'→B w F→B w F') (hp:plT res=some rv) (h:Ctg B P f args' res):WV P C o σ res:=by
 intro G a w ok N Q' hN
 obtain ⟨e1,e2⟩:=ok.evl hx
 obtain ⟨q1,q2⟩:=hl.at_
 have hF:G.F.le fun q=>w.cell? q:=fun p u x=>ok.fw p u x
 have hcalls:=h w (fun q=>w.cell? q) (xs.toList.map a.eval) (hst w _ _ hF (hB.1 w G.F ok.bel ok.f0)) (fun _ _ x=>x) ⟨by rw [e1,q1],fun i av u p q=>by
  obtain ⟨b,hb,hL⟩:=q2 i av p
  exact hL G a w ok u (e2 i b u hb q)⟩
 refine fU ?_
 have ev:a.eval (.func f)=.func (.func f) #[] #[]:=rfl
 have e3:(#[]++xs.map a.eval++#[]:Array Value)=(xs.toList.map a.eval).toArray:=by apply uI;simp
 simp only [ho,resolve,ev,Deferred.ofValue,invoke,Sem.run_bind,Sem.run_pure,Result.andThen_ok,hc,Oper.upon,e3]
 refine hcalls.mono fun e w1 ⟨v,F',he,hb,h1,h2,h3,h4⟩=>?_
 subst he
 have hv:=akz hp h4
 subst hv
 exact hN _ { G with F:=G.F } w1 (fun σ'' a'' ok''=>ok''.called hb (fun _ _ x=>x) (fun p u x=>by rw [hb.cell (cell_block (ok.fw p u x))];exact ok.fw p u x) (fun _ _ x=>.inl x)) (.pu _ _ (D6 hp)) (RP.bd (F:=G.F) (D6 hp) _)
end
end
end Go.Proofs.YthohlofpphjofaaGreatDoor
