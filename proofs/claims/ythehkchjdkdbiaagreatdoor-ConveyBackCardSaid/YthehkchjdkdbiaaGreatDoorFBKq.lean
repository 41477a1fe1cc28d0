/- Regions that draw their order, with a tail whose order is fixed; regions in the round of a range over a function. -/
import Derived.Test.YthehkchjdkdbiaaGreatDoorNr4Kq
set_option linter.unusedVariables false
set_option linter.unusedSimpArgs false
namespace Go.Proofs.YthehkchjdkdbiaaGreatDoor
theorem XR {p:Prop}(h:p:=by simpa using ho):p:=h
theorem XJ {p:Prop}(h:p:=by simpa using hsz):p:=h
theorem Qx {p:Prop}(h:p:=by simpa using e):p:=h
theorem Qu {p:Prop}(h:p:=by simpa using hi):p:=h
theorem BK {p:Prop}(h:p:=by simp [hy]):p:=h
theorem ajD {p:Prop}(h:p:=by simp [dM,hsz,hlt]):p:=h
theorem acZ {p:Prop}(h:p:=by rw [bT,x];rfl):p:=h
theorem ajC {p:Prop}(h:p:=by have:=(List.getElem?_eq_some_iff.1 hj').1;omega):p:=h
section
variable {p:Prop}
theorem alO(h:p:=by
 by_cases e:i=hi∧j=hj
 ·rw [if_pos e] at x ⊢
  exact R.qC h x
 exact ac7):p:=h
theorem alM(h:p:=by
 by_cases e:i=hi∧j=hj
 ·rw [if_pos e] at x ⊢
  exact EW YH x
 exact ac7):p:=h
theorem aaR(h:p:=by
 have:listed.getD j false=listed.getD j true:=by simp [dM,hsz,hlt]
 rw [this];exact h1):p:=h
theorem ale(h:p:=by
 obtain ⟨Kv,e,h0,rfl⟩:=hl i o h1
 exact ok.my i Kv x h0 h2):p:=h
theorem aaL(h:p:=by
 rw [ents,ihm (by omega),ents]
 simp):p:=h
theorem ak1(h:p:=by
 obtain ⟨o1',y1⟩:=some_ k1 o1 h1
 exact ok.dF k1 o1' x p u y1 h2 h3):p:=h
theorem akH(h:p:=by
 rcases hl k' o h with⟨rfl,_⟩|⟨_,y⟩
 ·exact ⟨ob,hk⟩
 ·exact ⟨o,y⟩):p:=h
theorem akB(h:p:=by
 show (if _ then _ else _)=_
 rw [if_neg (fun e=>ok.dF k _ p.block p u hk e h rfl)];exact h):p:=h
theorem aky(h:p:=by
 rcases hFn p u h with h|⟨h,_⟩
 ·exact ok.f1 p u h
 ·exact .inr (ok.my k _ _ hk h).1):p:=h
theorem akn(h:p:=by
 refine fin g cur T' hh hgb (by rw [hn'];simpa [c1] using q1) avX trivial ⟨hn',hg,?_⟩
 rw [hn'];exact q2):p:=h
theorem akl(h:p:=by
 rcases h2.2 with h3|h3
 ·rw [← dW h3];exact this
 ·exact xG hcl f e.on h3 this):p:=h
theorem akj(h:p:=by
 obtain ⟨o1',y1⟩:=some_ k1 o1 h1
 obtain ⟨o2',y2⟩:=some_ k2 o2 h2
 exact ok.dj k1 o1' k2 o2' x y1 y2 h3 h4):p:=h
theorem akb(h:p:=by
 obtain ⟨Kv,e,h0,rfl⟩:=hl i o h1
 obtain ⟨ay8,e',h0',rfl⟩:=hl i' o' h2
 exact ok.dj i Kv i' ay8 x h0 h0' h3 h4):p:=h
theorem aaD(h:p:=by
 rcases hFn p u h with h|⟨_,h⟩
 ·exact ok.fw p u h
 ·exact h):p:=h
theorem aj6(h:p:=by
 obtain ⟨e,he,hb,he2⟩:=hno
 have:=hcl i _ (by simp [hi]) BX e he hb
 rw [he2,h3] at this;cases this):p:=h
theorem ade(h:p:=by
 cases av with
 | ow T n rows=>exact .inr o
 | _=>cases ho):p:=h
theorem arv(h:p:=by
 have h:(if G.fp k p.block then w.cell? p else G.F p)=some u:=h
 by_cases e:G.fp k p.block
 ·rw [if_pos e] at h;exact .inr ⟨e,h⟩
 ·rw [if_neg e] at h;exact .inl h):p:=h
theorem arp(h:p:=by
 by_cases e:i=k
 ·rw [if_pos e] at h;cases h
 ·rw [if_neg e] at h
  cases hq:look i σ.M with
  | none=>simp [hq] at h
  | some Kv=>simp [hq] at h;exact ⟨Kv,e,rfl,h.symm⟩):p:=h
theorem ac7(h:p:=by
 ·rw [if_neg e] at x ⊢
  exact x):p:=h
theorem arh(h:p:=by
 ·intro i o x p u h1 h2 h3
  obtain ⟨Kv,e,h0,rfl⟩:=hl i o h1
  rcases hFn p u h3 with h|⟨h,_⟩
  ·exact ok.dF i Kv x p u h0 h2 h
  ·intro e2
   exact e (ok.dj i Kv k _ x h0 hk h2 (by rw [← e2];exact h))):p:=h
theorem al4(h:p:=by
 by_cases e:k'=k
 ·subst e
  rw [show look k' (σ.upd k' ob').M=some ob' from aA] at hx
  cases hx
  exact .inl ⟨rfl,rfl⟩
 ·rw [show look k' (σ.upd k ob').M=look k' σ.M from aj e] at hx
  exact .inr ⟨e,hx⟩):p:=h
theorem akk(h:p:=by
 have:∀ m,j≤m→look t (ents l.toArray bI (fun i=>decide (i < j)) m)=look t (ents l.toArray bI (fun i=>decide (i < j)) j):=by
  intro m
  induction m with
  | zero=>intro h;rw [Nat.le_zero.1 h]
  | succ m ihm =>
   intro h
   by_cases e:j=m+1
   ·rw [e]
   ·rw [ents,dB,pJ,if_neg (fun x=>by have:=iY x.1;omega),ihm (by omega)];rfl
 rw [this l.length (by omega)]
 exact kX fun i hi _=>(dG hi).symm):p:=h
theorem aul(h:p:=by
 have hr:Region.ready .any l.toArray listed=[]:=by
  apply List.eq_nil_iff_forall_not_mem.2
  intro j hj
  obtain ⟨h1,oj,h2,_⟩:=mem_ready.1 hj
  have hlt:j < l.length:=by have:=(Array.getElem?_eq_some_iff.1 h2).1;omega
  have h3:listed.getD j false=false:=by
   have:listed.getD j false=listed.getD j true:=by simp [dM,hsz,hlt]
   rw [this];exact h1
  have:=List.countP_eq_zero.1 (Nat.le_zero.1 hf) j (List.mem_range.2 hlt)
  simp [h3] at this
 exact ⟨hr,done listed G a w hsz hr ok⟩):p:=h
end
section
open Go.RowKit
def jQ {α:Type}:Nat→List α→List α→List α
 | 0,[],cs=>cs
 | 0,x::l,_::cs=>x::jQ 0 l cs
 | j+1,l,c::cs=>c::jQ j l cs
 | _,_,[]=>[]
theorem oD {α:Type}:∀ (j:Nat)(l cs:List α),j+l.length≤cs.length→jQ j l cs=cs.take j++l++cs.drop (j+l.length)
 | 0,[],cs,_=>by simp [jQ]
 | 0,x::l,[],h=>by simp at h
 | 0,x::l,c::cs,h=>by
  have:=oD 0 l cs (by simp at h ⊢;omega)
  simp [jQ,this]
 | j+1,l,[],h=>by simp at h
 | j+1,l,c::cs,h=>by
  have:=oD j l cs (by simp at h;omega)
  simp [jQ,this,Nat.add_right_comm]
theorem oG {α:Type} {j:Nat} {l cs:List α} (h:j+l.length≤cs.length):(jQ j l cs).length=cs.length:=by
 rw [oD j l cs h];simp;omega
theorem lS {α:Type} {j:Nat} {l cs:List α} (h:j+l.length≤cs.length)(i:Nat):(jQ j l cs)[i]?=if j≤i∧i<j+l.length then l[i-j]? else cs[i]?:=by
 rw [oD j l cs h]
 by_cases h1:i<j
 ·rw [if_neg (by omega),jA,qJ (by simp;omega),MO h1]
 ·by_cases h2:i<j+l.length
  ·rw [if_pos (by omega),qJ (by simp;omega),o8 (by simp;omega)]
   simp [Nat.min_eq_left (show j≤cs.length by omega)]
  ·rw [if_neg (by omega),o8 (by simp;omega),yA]
   congr 1;simp;omega
theorem aiA {α β:Type} (Q:α→β→Prop) {j:Nat} {l cs:List α} {m ds:List β} (h:j+l.length≤cs.length)(hm:m.length=l.length)(hd:ds.length=cs.length)
  (h1:∀ (i:Nat)x y,l[i]?=some x→m[i]?=some y→Q x y)(h2:∀ (i:Nat)x y,cs[i]?=some x→ds[i]?=some y→Q x y):∀ (i:Nat)x y,(jQ j l cs)[i]?=some x→(jQ j m ds)[i]?=some y→Q x y:=by
 intro i x y hx hy
 rw [lS h]at hx
 rw [lS (by omega)]at hy
 rw [hm]at hy
 by_cases e:j≤i∧i<j+l.length
 ·rw [if_pos e]at hx hy;exact h1 _ _ _ hx hy
 ·rw [if_neg e]at hx hy;exact h2 _ _ _ hx hy
theorem agA {n:Nat}:∀ (vs:List (List Value)),(∀ r∈vs,r.length=n)→∀ (i j:Nat) (r l:List Value),vs[i]?=some r→j+l.length≤n→(vs.set i (jQ j l r)).flatten=jQ (i*n+j) l vs.flatten:=by
 intro vs
 induction vs with
 | nil=>intro _ i j r l h;simp at h
 | cons v t ih =>
  intro hn i j r l h hj
  have hv:v.length=n:=hn v (by simp)
  cases i with
  | zero =>
   obtain rfl:v=r:=by simpa using h
   have hf:j+l.length≤(v++t.flatten).length:=by simp;omega
   rw [MB,BD,BD,zI,lW,oD j l v (by omega),oD j l _ hf]
   simp only [jA]
   rw [List.take_append_of_le_length (by omega),List.drop_append_of_le_length (by omega)]
  | succ i =>
   have ht:∀ r∈t,r.length=n:=fun r hr=>hn r (by simp [hr])
   have h':t[i]?=some r:=by simpa using h
   have hi:i<t.length:=(List.getElem?_eq_some_iff.1 h').1
   have hfl:t.flatten.length=t.length*n:=uG ht
   have hle:i*n+n≤t.length*n:=by
    have:(i+1)*n≤t.length*n:=aar n hi
    rw [Bv] at this;exact this
   rw [aas,BD,BD,ih ht i j r l h' hj,Bv,
    oD _ l t.flatten (by rw [hfl];omega),oD _ l (v++t.flatten) (by simp only [aY];rw [hfl];omega)]
   have e1:List.take (i*n+n+j) v=v:=wS au
   have e2:List.drop (i*n+n+j+l.length) v=[]:=wU au
   rw [List.take_append,List.drop_append,e1,e2]
   rw [show i*n+n+j-v.length=i*n+j by omega,show i*n+n+j+l.length-v.length=i*n+j+l.length by omega]
   simp
def AV.ZG:AV→Bool
 | .sc _=>true
 | .ls _ _=>true
 | .pr _=>true
 | _=>false
def AV.Ui:AV→Bool
 | .fn _ l=>l.all AV.ZG
 | av=>av.ZG
theorem acj {av:AV} (h:av.ZG=true)(nk:Nat):Bd nk av:=by
 cases av<;>first|exact .sc _|exact .ls _ _|exact .pr _|cases h
theorem acn {av:AV} (h:av.Ui=true):av.own=false:=by cases av<;>first|rfl|cases h
theorem zo {av:AV} (h:av.Ui=true)(nk:Nat):Bd nk av:=by
 cases av with
 | fn f l=>exact .fn f l fun i x hx=>acj (List.all_eq_true.1 h x (cO hx)) nk
 | sc v=>exact .sc v
 | ls n rows=>exact .ls n rows
 | pr cells=>exact .pr cells
 | _=>cases h
def AO.put:AO→Nat→Nat→List AV→Option AO
 | .box T cells,0,j,l=>bif Nat.ble (j+l.length) cells.length then some (.box T (jQ j l cells)) else none
 | .box _ _,_+1,_,_=>none
 | .row T n rows,i,j,l =>
  match rows[i]? with
  | some r=>if j+l.length≤r.length∧l.all AV.Ui=true then some (.row T n (rows.set i (jQ j l r))) else none
  | none=>none
 | .jM T n rows,i,j,l =>
  match rows[i]? with
  | some r=>if j+l.length≤r.length∧l.all AV.Ui=true then some (.jM T n (rows.set i (jQ j l r))) else none
  | none=>none
 | .EF _ _ _ _ _ _,_,_,_=>none
 | .oW _ _ _ _ _ _,_,_,_=>none
 | .xq _ _ _,_,_,_=>none
 | .opq _,_,_,_=>none
section
variable {P:Program} {C:Cx} {σ σ':St} {G G':Gh} {a:Act} {w w':World} {o:Oper} {d:Tmp}
theorem Vd (w:World)(g:Nat)(cur:Array Value):Kept (fun x=>x=g) w (w.setRow g cur) :=
 ⟨rfl,rfl,rfl,by simp,fun k _ hk=>setRow_other w g k cur hk⟩
theorem Ok.write (ok:Ok C σ G a w) {k g:Nat} {ob ob':AO} (cur:Array Value) (hk:look k σ.M=some ob) (hg:G.fp k g) (hob:oU G (w.setRow g cur) k ob') (hbd:ob'.bd σ.nk) :
  Ok C (σ.upd k ob') G a (w.setRow g cur):=by
 have hl:∀ k' o,look k' (σ.upd k ob').M=some o→(k'=k∧o=ob')∨(k'≠k∧look k' σ.M=some o):=fun k' o hx=>by
  exact al4
 have hne:∀ k' o x,k'≠k→look k' σ.M=some o→G.fp k' x→x≠g:=fun k' o x e h1 h2 h3=>by
  subst h3;exact e (ok.dj k' o k ob x h1 hk h2 hg)
 have hsz:(w.setRow g cur).heap.size=w.heap.size:=by simp
 have some_:∀ k' o,look k' (σ.upd k ob').M=some o→∃ o',look k' σ.M=some o':=fun k' o h=>by
  exact akH
 refine ⟨ok.sz,ok.df,ok.tm,ok.bel.on (Vd w g cur) (fun x hx=>by subst hx;exact (ok.my k ob x hk hg).1),fun p u h=>?_,ok.f0,ok.f1,?_,?_,?_,?_⟩
 ·rw [World.cell?_of_block (setRow_other w g p.block cur (ok.dF k ob g p u hk hg h))];exact ok.fw p u h
 ·intro k' o x
  rcases hl k' o x with⟨rfl,rfl⟩|⟨e,y⟩
  ·exact ⟨(ok.ob k' ob hk).1,hbd,hob⟩
  ·exact ⟨(ok.ob k' o y).1,(ok.ob k' o y).2.1,(ok.ob k' o y).2.2.keep (Gh.le.refl _ _) (ok.ob k' o y).1 (ok.ob k' o y).2.1 rfl fun x hx=>setRow_other w g x cur (hne k' o x e y hx)⟩
 ·intro k' o x h1 h2
  obtain ⟨o',y⟩:=some_ k' o h1
  rw [hsz]
  exact ok.my k' o' x y h2
 ·intro k1 o1 k2 o2 x h1 h2 h3 h4
  exact akj
 ·intro k1 o1 x p u h1 h2 h3
  exact ak1
theorem Jb {av:AV} {v:Value} (r:R G av v)(h:av.yN=true):v.oneCell'=true:=by
 cases av with
 | sc x=>rw [r.fB];exact h
 | ag l=>cases h
 | tu l=>cases h
 | ls n rows=>obtain⟨A,cap,ad,u,rfl,_⟩:=r.D7.Bc;rfl
 | ow T n rows=>cases h
 | pr cells=>obtain⟨p,u,rfl,_⟩:=r.oz.oz;rfl
 | pt k i j=>obtain⟨p,rfl,_⟩:=r.lV;rfl
 | sl k=>exact r.nG.2
 | fn f l=>obtain⟨cs,rfl,_⟩:=r.A8;rfl
theorem ajf {cur:List Value} {K off:Nat} {l:List Value} (h:off+l.length≤K)(hK:K≤cur.length):(jQ off l cur).take K=jQ off l (cur.take K):=by
 apply List.ext_getElem?
 intro i
 have hl:off+l.length≤(cur.take K).length:=by simp;omega
 rw [lS hl]
 by_cases e:i<K
 ·rw [MO e,lS (by omega)]
  by_cases e2:off≤i∧i<off+l.length
  ·rw [if_pos e2,if_pos e2]
  ·rw [if_neg e2,if_neg e2,MO e]
 ·rw [if_neg (by omega),aat (by simp;omega),aat (by simp;omega)]
theorem dH.put {T n:Nat} {rows:List (List AV)} {v:Value} {φ:Nat→Prop} {X X':Nat→Nat→(Nat→Prop)→AV→Value→Prop} (h:dH w T n rows v φ X) {i j:Nat} {r l:List AV} {us:List Value} (hr':rows[i]?=some r) (hle:j+l.length≤r.length) (hcl:us.length=l.length)
  (hone:∀ u∈us,u.oneCell'=true) {g:Nat} {cur:Array Value} {t:TypeId} (hh:w.heap[g]?=some (.cells cur t (0,0))) (hvg:v.ownBlock=some g)
  (hnew:∀ (s:Nat) x u ψ,l[s]?=some x→us[s]?=some u→X' i (j+s) ψ x u)
  (hold:∀ (q s:Nat) ψ x u,(∀ z,ψ z→z≠g)→¬ (q=i∧j≤s∧s<j+l.length)→X q s ψ x u→X' q s ψ x u) :
  i*n+j+us.length≤cur.size∧dH (w.setRow g (jQ (i*n+j) us cur.toList).toArray) T n (rows.set i (jQ j l r)) v φ X':=by
 obtain ⟨hrl,vs,Φ,h4,h5,h7,hgf,U5,YK,h8,h6⟩:=h
 have hi:i<rows.length:=(List.getElem?_eq_some_iff.1 hr').1
 have hv':vs[i]?=some vs[i]:=aI (by omega)
 have e1:=h8 i r _ hr' hv'
 have hvl:∀ r∈vs,r.length=n:=by
  intro r' hr'
  exact al6
 have hrn:r.length=n:=hrl r (cO hr')
 rcases h4.2 with⟨_,e0⟩|⟨g',cap,cur',e,hbase,hh',hnc,hcm,hcs,ht⟩
 ·omega
 ·obtain rfl:g'=g:=by rw [e] at hvg;exact Option.some.inj hvg
  obtain ⟨rfl,rfl⟩:cur'=cur∧T=t:=by rw [hh] at hh';cases hh';exact ⟨rfl,rfl⟩
  have hin:i*n+n≤vs.length*n:=by
   have:(i+1)*n≤vs.length*n:=aar n au
   rw [Bv] at this;exact this
  have hcap:vs.length*n≤cap*n:=aar n hnc
  have hfp:=agA vs hvl i j vs[i] us hv' au
  have ayV:∀ r∈vs.set i (jQ j us vs[i]),r.length=n:=by
   intro q hq
   rcases Ql hq with hq|rfl
   ·exact hvl q hq
   ·rw [oG (by omega)];omega
  refine ⟨by rw [hcs];omega,?_,vs.set i (jQ j us vs[i]),fun q s x=>¬ (q=i∧j≤s∧s<j+l.length)∧Φ q s x,⟨?_,.inr ⟨g',cap,_,?_,hbase,setRow_heap w _ _ _ _ _ hh,?_,hcm,?_,?_⟩⟩,by simp [h5],?_,hgf,fun q s x hx=>U5 q s x hx.2,fun q s q' s' x h1 h2=>YK q s q' s' x h1.2 h2.2,?_,?_⟩
  ·intro q hq
   rcases Ql hq with hq|rfl
   ·exact hrl q hq
   ·rw [oG (by omega)];exact hrn
  ·rw [uG ayV]
  ·rw [e];simp
  ·simpa using hnc
  ·rw [Qj,oG (by rw [hcl];simp [hcs];omega)];simpa using hcs
  ·rw [hfp,wV,ajf (by omega) (by simp [hcs];omega),ht]
  ·intro q hq u hu
   rcases Ql hq with hq|rfl
   ·exact h7 q hq u hu
   ·obtain ⟨s,hs,rfl⟩:=eu hu
    have:=lS (j:=j) (l:=us) (cs:=vs[i]) au s
    rw [aI hs] at this
    split at this
    ·exact hone _ (cO this.symm)
    ·exact h7 _ (dS _) _ (cO this.symm)
  ·intro q r1 r2 hq1 hq2
   by_cases eq:q=i
   ·subst eq
    rw [rM (by omega)] at hq1 hq2
    cases hq1;cases hq2
    rw [oG (by omega),oG hle];exact e1
   ·rw [uf (fun h=>eq h.symm)] at hq1 hq2
    exact h8 q r1 r2 hq1 hq2
  ·intro q r1 r2 s x u hq1 hq2 hs hu
   have hne:∀ z,(¬ (q=i∧j≤s∧s<j+l.length)∧Φ q s z)→z≠g':=fun z hz h=>(U5 q s z hz.2).2 (by rw [e,h];rfl)
   by_cases eq:q=i
   ·subst eq
    rw [rM (by omega)] at hq1 hq2
    cases hq1;cases hq2
    rw [lS hle] at hs
    rw [lS (by omega),hcl] at hu
    by_cases e3:j≤s∧s<j+l.length
    ·rw [if_pos e3] at hs hu
     have:=hnew (s-j) x u (fun z=>¬ (q=q∧j≤s∧s<j+l.length)∧Φ q s z) hs hu
     rwa [show j+(s-j)=s by omega] at this
    ·rw [if_neg e3] at hs hu
     have h61:=h6 q r _ s x u hr' hv' hs hu
     have:(fun z=>¬ (q=q∧j≤s∧s<j+l.length)∧Φ q s z)=Φ q s:=by
      funext z
      exact propext ⟨fun h=>h.2,fun h=>⟨fun h'=>e3 h'.2,h⟩⟩
     show X' q s (fun z=>¬ (q=q∧j≤s∧s<j+l.length)∧Φ q s z) x u
     rw [this]
     exact hold q s (Φ q s) x u (fun z hz=>hne z ⟨fun h'=>e3 h'.2,hz⟩) (fun h'=>e3 h'.2) h61
   ·rw [uf (fun h=>eq h.symm)] at hq1 hq2
    have h61:=h6 q r1 r2 s x u hq1 hq2 hs hu
    have:(fun z=>¬ (q=i∧j≤s∧s<j+l.length)∧Φ q s z)=Φ q s:=by
     funext z
     exact propext ⟨fun h=>h.2,fun h=>⟨fun h'=>eq h'.1,h⟩⟩
    show X' q s (fun z=>¬ (q=i∧j≤s∧s<j+l.length)∧Φ q s z) x u
    rw [this]
    exact hold q s (Φ q s) x u (fun z hz=>hne z ⟨fun h'=>eq h'.1,hz⟩) (fun h'=>eq h'.1) h61
theorem dH.blk {T n:Nat} {rows:List (List AV)} {v:Value} {φ:Nat→Prop} {X:Nat→Nat→(Nat→Prop)→AV→Value→Prop} (h:dH w T n rows v φ X)(hp:0<rows.length):∃ g cur,v.ownBlock=some g∧φ g∧w.heap[g]?=some (.cells cur T (0,0)):=by
 obtain⟨hrl,vs,Φ,h4,h5,h7,hgf,_⟩:=h
 rcases h4.2 with⟨_,e0⟩|⟨g,cap,cur,e,_,hh,_⟩
 ·omega
 ·have:v.ownBlock=some g:=by rw [e];rfl
  exact⟨g,cur,this,hgf g this,hh⟩
theorem WO.store {T m:Nat} {x y:Operand} {k i j:Nat} {ob ob':AO} {av:AV} {l:List AV} (ho:o.op=.store T x y) (hds:o.dst=none) (hn:iE P T=some m) (hx:σ.ev x=some (.pt k i j)) (hk:look k σ.M=some ob) (hy:σ.ev y=some av)
  (hB:av.mD=true) (hl:av.cells=l) (hm:l.length=m) (h1:l.all AV.yN=true) (hp:ob.put i j l=some ob'):WO P C o σ (σ.upd k ob'):=by
 intro G a w ok N Q' hN
 obtain ⟨p,ep,p1,p2,p3⟩:=(ok.nO hx).2.lV
 obtain ⟨hb,hr⟩:=ok.nO hy
 obtain ⟨c1,c2⟩:=sN hr hB
 have cb:=Dt hb
 rw [hl] at c1 c2 cb
 obtain ⟨v,hv⟩:∃ v,a.eval y=v:=⟨_,rfl⟩
 rw [hv] at c1 c2
 have hone:∀ u∈v.cells.toList,u.oneCell'=true:=fun u hu=>by
  obtain ⟨q,hq,rfl⟩:=eu hu
  have hq':q<l.length:=by simpa [c1] using hq
  exact Jb (c2 q l[q] _ (aI hq') (by simp at hq;simp [hq])) (List.all_eq_true.1 h1 _ (dS hq'))
 obtain rfl:=addr_eq p1 p2 p3
 have fin:∀ (g:Nat) (cur:Array Value) (t:TypeId),w.heap[g]?=some (.cells cur t (0,0))→g=G.b k→i*G.n k+j+l.length≤cur.size→G.fp k g→ob'.bd σ.nk →
   (oU G (w.setRow g (jQ (i*G.n k+j) v.cells.toList cur.toList).toArray) k ob')→o.wp P a w N Q':=fun g cur t hg hgb hle hown hbd hob=>by
  have hst:=run_storeCells_at P g (i*G.n k+j) t v.cells.toList 0 cur w hg (by simp [c1];omega) hone
  rw [zJ,← oD _ _ _ (by simp [c1];omega)] at hst
  refine lJ ?_
  simp only [ho,ep,hv,Instr.storeAt,Instr.sureAddr,storeVar,Sem.run_bind,Sem.run_pure,Result.andThen_ok,kH hn,← hgb,hst]
  rw [if_neg (by rw [c1,hm];simp)]
  simp only [Sem.run_bind,Sem.run_pure,Result.andThen_ok,hst,Oper.upon]
  rw [hds]
  exact hN G _ _ (ok.write _ hk hown hob hbd)
 have ag4:=ok.ob k ob hk
 cases ob with
 | box T' cells =>
  cases i with
  | succ i=>simp [AO.put] at hp
  | zero =>
   simp only [AO.put] at hp
   cases hle:Nat.ble (j+l.length) cells.length with
   | false=>simp [hle] at hp
   | true =>
    simp [hle] at hp
    subst hp
    have hle:=bU hle
    obtain ⟨hf,cs,Φ,hbk,hs,U5,YK,hc⟩:=ag4.2.2
    refine fin (G.b k) cs T' hbk rfl (by rw [hs];simpa using hle) hf (fun q x hx=>?_) ⟨hf,_,fun q x=>¬ (j≤q∧q<j+l.length)∧Φ q x,setRow_heap w _ _ _ _ _ hbk,?_,fun q x hx=>U5 q x hx.2,fun q q' x h1 h2=>YK q q' x h1.2 h2.2,?_⟩
    ·rw [lS hle] at hx
     split at hx
     ·exact cb _ x hx
     ·exact ag4.2.1 _ x hx
    ·simp only [zI,lW,Qj]
     rw [oG (by simp [c1,hs];exact hle),oG hle];simpa using hs
    ·intro q x u hx hu
     simp only [zI,lW,List.getElem?_toArray] at hu
     rw [lS hle] at hx
     rw [lS (by simp [c1,hs];exact hle)] at hu
     simp only [aao,c1] at hu
     by_cases e:j≤q∧q<j+l.length
     ·rw [if_pos e] at hx hu
      exact .inl (c2 _ x u hx Nh)
     ·rw [if_neg e] at hx hu
      refine ((hc q x u hx Nh).keep (Gh.le.refl _ σ.nk) (ag4.2.1 q x hx) fun z hz=>setRow_other w _ z _ (U5 q z hz).2).wide fun z hz=>⟨e,hz⟩
 | row T' n rows =>
  simp only [AO.put] at hp
  cases hr':rows[i]? with
  | none=>simp [hr'] at hp
  | some r =>
   simp only [hr'] at hp
   by_cases hcond:j+l.length≤r.length∧l.all AV.Ui=true
   ·rw [if_pos hcond] at hp
    cases hp
    obtain ⟨hle,hpu⟩:=hcond
    obtain ⟨hn',hg,hR⟩:=ag4.2.2
    obtain ⟨g,cur,hvg,avX,hh⟩:=hR.blk (by have:=(List.getElem?_eq_some_iff.1 hr').1;omega)
    have hgb:=hg g hvg
    obtain ⟨q1,q2⟩:=hR.put (X':=XP G.F) hr' hle (us:=v.cells.toList) (by simpa using c1) hone hh hvg (fun s x u ψ hs hu=>(zo (List.all_eq_true.1 hpu x (cO hs)) 0).rp (c2 s x u hs Nh)) (fun q s ψ x u _ _ h=>h)
    exact akn
   ·rw [if_neg hcond] at hp;cases hp
 | jM T' n rows =>
  simp only [AO.put] at hp
  cases hr':rows[i]? with
  | none=>simp [hr'] at hp
  | some r =>
   simp only [hr'] at hp
   by_cases hcond:j+l.length≤r.length∧l.all AV.Ui=true
   ·rw [if_pos hcond] at hp
    cases hp
    obtain ⟨hle,hpu⟩:=hcond
    obtain ⟨hn',hg,hR⟩:=ag4.2.2
    obtain ⟨g,cur,hvg,avX,hh⟩:=hR.blk (by have:=(List.getElem?_eq_some_iff.1 hr').1;omega)
    have hgb:=hg g hvg
    obtain ⟨q1,q2⟩:=hR.put (X':=XO G.F (w.setRow g (jQ (i*n+j) v.cells.toList cur.toList).toArray)) hr' hle (us:=v.cells.toList) (by simpa using c1) hone hh hvg (fun s x u ψ hs hu=>.pu _ _ _ ((zo (List.all_eq_true.1 hpu x (cO hs)) 0).rp (c2 s x u hs Nh)))
     (fun q s ψ x u hne _ h=>OW.keep (fun _ _ h=>h) h fun z hz=>setRow_other w _ z _ (hne z hz))
    exact akn
   ·rw [if_neg hcond] at hp;cases hp
 | EF T' n rows hi hj y=>cases hp
 | oW T' n rows hi hj y=>cases hp
 | xq T' e l'=>cases hp
 | opq q=>cases hp
end
def AV.pu1:AV→Bool
 | .ag l=>l.all AV.Ui
 | av=>av.Ui
def AV.pu2:AV→Bool
 | .tu l=>l.all AV.pu1
 | av=>av.pu1
theorem aiz {av:AV} (h:av.pu1=true)(nk:Nat):Bd nk av:=by
 cases av with
 | ag l=>exact .ag l fun i x hx=>zo (List.all_eq_true.1 h x (cO hx)) nk
 | _=>refine zo ?_ nk;exact h
theorem oC {av:AV} (h:av.pu2=true)(nk:Nat):Bd nk av:=by
 cases av with
 | tu l=>exact .tu l fun i x hx=>aiz (List.all_eq_true.1 h x (cO hx)) nk
 | _=>refine aiz ?_ nk;exact h
def St.evs (σ:St):List Operand→Option (List AV)
 | []=>some []
 | x::r =>
  match σ.ev x,St.evs σ r with
  | some av,some l=>some (av::l)
  | _,_=>none
section
variable {P:Program} {C:Cx} {σ σ':St} {G G':Gh} {a:Act} {w w':World} {o:Oper} {d:Tmp}
theorem Ok.evl (ok:Ok C σ G a w):∀ {xs:List Operand} {l:List AV},σ.evs xs=some l→(xs.map a.eval).length=l.length∧∀ (i:Nat)av u,l[i]?=some av→(xs.map a.eval)[i]?=some u→R G av u
 | [],l,h=>by cases h;exact ⟨rfl,fun i av u h=>by simp at h⟩
 | x::r,l,h=>by
  unfold St.evs at h
  cases h1:σ.ev x with
  | none=>simp [h1]at h
  | some av =>
   cases h2:σ.evs r with
   | none=>simp [h1,h2]at h
   | some l' =>
    simp [h1,h2]at h
    subst h
    obtain ⟨e1,e2⟩:=ok.evl h2
    refine ⟨by simpa using e1,fun i y u hy hu=>?_⟩
    cases i with
    | zero=>cases hy;cases hu;exact (ok.nO h1).2
    | succ i=>exact e2 i y u (by simpa using hy) Nh
theorem Ok.called (ok:Ok C σ G a w) {F':View} (hb:Below w.heap.size w w') (h1:View.le G.F F') (h2:∀ p u,F' p=some u→w'.cell? p=some u) (h3:∀ p u,F' p=some u→G.F p=some u∨w.heap.size≤p.block) :
  Ok C σ { G with F:=F' } a w' :=
 ok.world (S:=fun _=>False) ⟨h1,fun _ _=>rfl,fun _ _=>rfl,fun _ _=>rfl⟩ (fun _ _=>rfl) (Kept.below hb) (fun _ h=>h.elim) (fun k o x p q=>hb.block x (ok.my k o x p q).2) h2 h3
theorem WV.call {f:FuncId} {xs:Array Operand} {ts:Array TypeId} {args:List AV} {res:AV} (ho:o.op=.call { callee:=.value (.func f),args:=xs,argTypes:=ts }) (hc:∀ vs w,(callFunc f vs).run P w=.ok (.enter f vs) w)
  (hx:σ.evs xs.toList=some args) (hp:args.all AV.pu2=true) (h:aU P f args res):WV P C o σ res:=by
 intro G a w ok N Q' hN
 obtain ⟨e1,e2⟩:=ok.evl hx
 have pG:=h w G.F (xs.toList.map a.eval) ok.fw ⟨e1,fun i av u p q=>(oC (List.all_eq_true.1 hp av (cO p)) 0).rp (e2 i av u p q)⟩
 refine lJ ?_
 have ev:a.eval (.func f)=.func (.func f) #[] #[]:=rfl
 have e3:(#[]++xs.map a.eval++#[]:Array Value)=(xs.toList.map a.eval).toArray:=by apply Bz;simp
 simp only [ho,resolve,ev,Deferred.ofValue,invoke,Sem.run_bind,Sem.run_pure,Result.andThen_ok,hc,Oper.upon,e3]
 refine pG.mono fun e w1 ⟨v,F',he,hb,h1,h2,h3,h4⟩=>?_
 subst he
 exact hN v _ w1 (fun Dk a'' Fj=>Fj.called hb h1 h2 h3) (.pu _ _ h4) (h4.bd _)
theorem WV.inv {f:FuncId} {x:Operand} {name:String} {t:TypeId} {rv:Value} {l:List AV} {xs:Array Operand} {ts:Array TypeId} {args:List AV} {res:AV} (ho:o.op=.call { callee:=.invoke x name,args:=xs,argTypes:=ts })
  (hr:σ.ev x=some (.sc (.iface t rv))) (hc:∀ vs w,(callMethod (.iface t rv) name vs).run P w=.ok (.enter f (#[rv]++vs)) w) (hrv:rv=.agg #[])
  (hx:σ.evs xs.toList=some args) (hp:args.all AV.pu2=true) (h:aU P f (.ag []::args) res):WV P C o σ res:=by
 intro G a w ok N Q' hN
 obtain ⟨e1,e2⟩:=ok.evl hx
 subst hrv
 have pG:=h w G.F (.agg #[]::xs.toList.map a.eval) ok.fw ⟨by simpa using e1,fun i av u p q=>by
  cases i with
  | zero=>cases p;cases q;exact .ag [] #[] rfl fun i av u h=>by simp at h
  | succ i =>
   have p:args[i]?=some av:=by simpa using p
   exact (oC (List.all_eq_true.1 hp av (cO p)) 0).rp (e2 i av u p rQ)⟩
 refine lJ ?_
 have e4:(#[Value.iface t (.agg #[])]++xs.map a.eval:Array Value)[0]?=some (Value.iface t (.agg #[])):=by rw [Es (by simp)];rfl
 have e5:(#[Value.iface t (.agg #[])]++xs.map a.eval:Array Value).extract 1 (#[Value.iface t (.agg #[])]++xs.map a.eval:Array Value).size=xs.map a.eval:=by
  apply Bz
  simp [wS]
 simp only [ho,resolve,ok.evs hr,invoke,Sem.run_bind,Sem.run_pure,Result.andThen_ok,e4,e5,hc,Oper.upon]
 have e6:(#[Value.agg #[]]++xs.map a.eval:Array Value)=(Value.agg #[]::xs.toList.map a.eval).toArray:=by
  apply Bz
  first|rfl|(simp;done)|(rw [Array.toList_append];simp;done)
 rw [e6]
 refine pG.mono fun e w1 ⟨v,F',he,hb,h1,h2,h3,h4⟩=>?_
 subst he
 exact hN v _ w1 (fun Dk a'' Fj=>Fj.called hb h1 h2 h3) (.pu _ _ h4) (h4.bd _)
end
def AV.Eb (ρ:Nat→Nat):AV→AV
 | .pt k i j=>.pt (ρ k) i j
 | .sl k=>.sl (ρ k)
 | av=>av
def AV.qC (ρ:Nat→Nat):AV→AV
 | .fn f l=>.fn f (l.map (AV.Eb ρ))
 | av=>av.Eb ρ
def AV.Az (ρ:Nat→Nat):AV→AV
 | .ag l=>.ag (l.map (AV.qC ρ))
 | av=>av.qC ρ
def AV.ren (ρ:Nat→Nat):AV→AV
 | .tu l=>.tu (l.map (AV.Az ρ))
 | av=>av.Az ρ
def AV.in0(nk:Nat):AV→Bool
 | .pt k _ _=>Nat.blt k nk
 | .sl k=>Nat.blt k nk
 | .ag _=>false
 | .tu _=>false
 | .fn _ _=>false
 | _=>true
def AV.in1 (nk:Nat):AV→Bool
 | .fn _ l=>l.all (AV.in0 nk)
 | av=>av.in0 nk
def AV.in2 (nk:Nat):AV→Bool
 | .ag l=>l.all (AV.in1 nk)
 | av=>av.in1 nk
def AV.inn (nk:Nat):AV→Bool
 | .tu l=>l.all (AV.in2 nk)
 | av=>av.in2 nk
def AO.ren (ρ:Nat→Nat):AO→AO
 | .box T cells=>.box T (cells.map (AV.qC ρ))
 | .EF T n rows hi hj x=>.EF T n rows hi hj (x.qC ρ)
 | .oW T n rows hi hj x=>.oW T n rows hi hj (x.qC ρ)
 | ob=>ob
def AO.inn (nk:Nat):AO→Bool
 | .box _ cells=>cells.all (AV.in1 nk)
 | .row _ _ _=>true
 | .jM _ _ _=>true
 | .EF _ _ _ _ _ x=>x.in1 nk
 | .oW _ _ _ _ _ x=>x.in1 nk
 | .xq _ _ _=>true
 | .opq _=>true
def TrT (σ:St)(ρ:Nat→Nat)(nk:Nat):List (Nat×AV)→Prop
 | []=>True
 | x::r=>(look x.1 σ.t=some (x.2.ren ρ)∧x.2.inn nk=true)∧TrT σ ρ nk r
def XY (σ:St)(ρ:Nat→Nat)(nk:Nat):List (Nat×AO)→Prop
 | []=>True
 | x::r=>(look (ρ x.1) σ.M=some (x.2.ren ρ)∧x.2.inn nk=true∧Nat.blt x.1 nk=true)∧XY σ ρ nk r
theorem aha {nk:Nat} {av:AV} (h:av.in0 nk=true):Bd nk av:=by
 cases av with
 | sc v=>exact .sc v
 | ls n rows=>exact .ls n rows
 | ow T n rows=>exact .ow T n rows
 | pr cells=>exact .pr cells
 | pt k i j=>exact .pt k i j (dP h)
 | sl k=>exact .sl k (dP h)
 | _=>cases h
theorem yX {nk:Nat} {av:AV} (h:av.in1 nk=true):Bd nk av:=by
 cases av with
 | fn f l=>exact .fn f l fun i x hx=>aha (List.all_eq_true.1 h x (cO hx))
 | _=>refine aha ?_;exact h
theorem ahb {nk:Nat} {av:AV} (h:av.in2 nk=true):Bd nk av:=by
 cases av with
 | ag l=>exact .ag l fun i x hx=>yX (List.all_eq_true.1 h x (cO hx))
 | _=>refine yX ?_;exact h
theorem E8 {nk:Nat} {av:AV} (h:av.inn nk=true):Bd nk av:=by
 cases av with
 | tu l=>exact .tu l fun i x hx=>ahb (List.all_eq_true.1 h x (cO hx))
 | _=>refine ahb ?_;exact h
def Gh.ren (G:Gh)(ρ:Nat→Nat):Gh:=⟨G.F,fun k=>G.b (ρ k),fun k=>G.n (ρ k),fun k=>G.h (ρ k),fun k=>G.fp (ρ k)⟩
theorem R.Eb {G:Gh} {ρ:Nat→Nat} {nk:Nat} {av:AV} {v:Value} (h:av.in0 nk=true)(r:R G (av.Eb ρ) v):R (G.ren ρ) av v:=by
 cases av with
 | pt k i j=>obtain⟨p,rfl,a,b,c⟩:=r.lV;exact .pt k i j p a b c
 | sl k=>obtain⟨rfl,b⟩:=r.nG;exact R.sl (G:=G.ren ρ) k b
 | sc x=>rw [r.fB];exact .pu _ _ (.sc x)
 | ls n rows=>exact .pu _ _ r.D7
 | pr cells=>exact .pu _ _ r.oz
 | ow T n rows=>exact r.Vu.elim
 | _=>cases h
theorem R.qC {G:Gh} {ρ:Nat→Nat} {nk:Nat} {av:AV} {v:Value} (h:av.in1 nk=true) (r:R G (av.qC ρ) v):R (G.ren ρ) av v:=by
 cases av with
 | fn f l =>
  obtain ⟨cs,rfl,h1,h2⟩:=R.A8 (l:=l.map (AV.Eb ρ)) r
  exact .fn f l cs rO fun i av u x y=>R.Eb (List.all_eq_true.1 h av (cO x)) (h2 i _ u acZ y)
 | ag l=>cases h
 | tu l=>cases h
 | pt k i j=>exact R.Eb (nk:=nk) h r
 | sl k=>exact R.Eb (nk:=nk) h r
 | sc x=>exact R.Eb (nk:=nk) h r
 | ls n rows=>exact R.Eb (nk:=nk) h r
 | ow T n rows=>exact R.Eb (nk:=nk) h r
 | pr cells=>exact R.Eb (nk:=nk) h r
theorem R.Az {G:Gh} {ρ:Nat→Nat} {nk:Nat} {av:AV} {v:Value} (h:av.in2 nk=true) (r:R G (av.Az ρ) v):R (G.ren ρ) av v:=by
 cases av with
 | ag l =>
  obtain ⟨cs,rfl,h1,h2⟩:=R.AX (l:=l.map (AV.qC ρ)) r
  exact .ag l cs rO fun i av u x y=>R.qC (List.all_eq_true.1 h av (cO x)) (h2 i _ u acZ y)
 | tu l=>cases h
 | fn f l=>exact R.qC (nk:=nk) h r
 | pt k i j=>exact R.qC (nk:=nk) h r
 | sl k=>exact R.qC (nk:=nk) h r
 | sc x=>exact R.qC (nk:=nk) h r
 | ls n rows=>exact R.qC (nk:=nk) h r
 | ow T n rows=>exact R.qC (nk:=nk) h r
 | pr cells=>exact R.qC (nk:=nk) h r
theorem R.atK {G:Gh} {ρ:Nat→Nat} {nk:Nat} {av:AV} {v:Value} (h:av.inn nk=true) (r:R G (av.ren ρ) v):R (G.ren ρ) av v:=by
 cases av with
 | tu l =>
  obtain ⟨cs,rfl,h1,h2⟩:=R.Qi (l:=l.map (AV.Az ρ)) r
  exact .tu l cs rO fun i av u x y=>R.Az (List.all_eq_true.1 h av (cO x)) (h2 i _ u acZ y)
 | ag l=>exact R.Az (nk:=nk) h r
 | fn f l=>exact R.Az (nk:=nk) h r
 | pt k i j=>exact R.Az (nk:=nk) h r
 | sl k=>exact R.Az (nk:=nk) h r
 | sc x=>exact R.Az (nk:=nk) h r
 | ls n rows=>exact R.Az (nk:=nk) h r
 | ow T n rows=>exact R.Az (nk:=nk) h r
 | pr cells=>exact R.Az (nk:=nk) h r
theorem CR.ren {G:Gh} {w:World} {ρ:Nat→Nat} {nk:Nat} {φ:Nat→Prop} {av:AV} {v:Value} (h:av.in1 nk=true)(r:CR G w φ (av.qC ρ) v):CR (G.ren ρ) w φ av v:=by
 rcases r with r|o
 ·exact .inl (R.qC h r)
 ·by_cases ho:av.own=true
  ·exact ade
  ·have ho2:(av.qC ρ).own=false:=by cases av<;>first|rfl|exact absurd rfl ho
   exact .inl (R.qC h (.pu _ _ (OW.p o ho2)))
theorem oU.ren {G:Gh} {w:World} {ρ:Nat→Nat} {nk k:Nat} {ob:AO} (h:ob.inn nk=true) (g:oU G w (ρ k) (ob.ren ρ)):ob.bd nk∧oU (G.ren ρ) w k ob:=by
 cases ob with
 | box T cells =>
  obtain ⟨b1,cs,Φ,b2,b3,b4,b5,b6⟩:=g
  exact ⟨fun i av x=>yX (List.all_eq_true.1 h av (cO x)),b1,cs,Φ,b2,by simpa using b3,b4,b5,fun i av u x y=>CR.ren (List.all_eq_true.1 h av (cO x)) (b6 i _ u acZ y)⟩
 | row T n rows=>exact ⟨trivial,g⟩
 | jM T n rows=>exact ⟨trivial,g⟩
 | EF T n rows hi hj y =>
  obtain ⟨g1,g2,g3⟩:=g
  refine ⟨yX h,g1,g2,g3.keep (fun _ _=>rfl) fun i r j av ψ u _ _ _ x=>?_⟩
  unfold XH at x ⊢
  exact alO
 | oW T n rows hi hj y =>
  obtain ⟨g1,g2,g3⟩:=g
  refine ⟨yX h,g1,g2,g3.keep (fun _ _=>rfl) fun i r j av ψ u _ _ _ x=>?_⟩
  unfold XQ at x ⊢
  exact alO
 | xq T e l=>exact ⟨trivial,g⟩
 | opq q=>exact ⟨trivial,g⟩
theorem TrT.at_ {σ:St} {ρ:Nat→Nat} {nk:Nat}:∀ {t:List (Nat×AV)},TrT σ ρ nk t→∀ i av,look i t=some av→look i σ.t=some (av.ren ρ)∧av.inn nk=true
 | [],_,i,av,h=>by cases h
 | x::r,ht,i,av,h=>by
  by_cases e:i=x.1
  ·subst e
   rw [show look x.1 (x::r)=some x.2 from aA]at h
   cases h
   exact ht.1
  ·rw [show look i (x::r)=look i r from aj e]at h
   exact TrT.at_ ht.2 i av h
theorem XY.at_ {σ:St} {ρ:Nat→Nat} {nk:Nat}:∀ {t:List (Nat×AO)},XY σ ρ nk t→∀ i ob,look i t=some ob→look (ρ i) σ.M=some (ob.ren ρ)∧ob.inn nk=true∧i<nk
 | [],_,i,av,h=>by cases h
 | x::r,ht,i,av,h=>by
  by_cases e:i=x.1
  ·subst e
   rw [show look x.1 (x::r)=some x.2 from aA] at h
   cases h
   exact⟨ht.1.1,ht.1.2.1,dP ht.1.2.2⟩
  ·rw [show look i (x::r)=look i r from aj e] at h
   exact XY.at_ ht.2 i av h
def YO (ρ:Nat→Nat):List Nat→Bool
 | []=>true
 | k::r=>r.all (fun q=>Nat.beq k q|| !Nat.beq (ρ k) (ρ q)) && YO ρ r
theorem OV {ρ:Nat→Nat}:∀ {l:List Nat},YO ρ l=true→∀ k q,k∈l→q∈l→ρ k=ρ q→k=q
 | [],_,k,q,h,_=>by cases h
 | x::r,h,k,q,hk,hq=>fun e=>by
  simp only [YO,aW,jg,qI,iy]at h
  rcases List.mem_cons.1 hk with hk1|hk1
  ·rcases List.mem_cons.1 hq with hq1|hq1
   ·rw [hk1,hq1]
   ·rcases h.1 q hq1 with y|y
    ·rw [hk1];exact dW y
    ·rw [← hk1,e]at y;simp at y
  ·rcases List.mem_cons.1 hq with hq1|hq1
   ·rcases h.1 k hk1 with y|y
    ·rw [hq1];exact(dW y).symm
    ·rw [← hq1,e]at y;simp at y
   ·exact OV h.2 k q hk1 hq1 e
theorem DJ {α:Type}:∀ {l:List (Nat×α)} {i:Nat} {x:α},look i l=some x→i∈l.map (·.1)
 | [],i,x,h=>by cases h
 | y::r,i,x,h=>by
  by_cases e:i=y.1
  ·subst e;simp
  ·rw [show look i (y::r)=look i r from aj e]at h
   have:=DJ h
   simp only [wR,Et];exact .inr this
def ae0 (ρ:Nat→Nat)(nk:Nat):Nat→Bool
 | 0=>true
 | n+1=>Nat.beq (ρ n) n && Nat.blt n nk && ae0 ρ nk n
theorem ach {ρ:Nat→Nat} {nk:Nat}:∀ {n:Nat},ae0 ρ nk n=true→n≤nk∧∀ k,k<n→ρ k=k
 | 0,_=>⟨gU _,fun k hk=>absurd hk (Ic k)⟩
 | n+1,h=>by
  simp only [ae0,aW]at h
  obtain⟨h1,h2⟩:=ach h.2
  refine⟨dP h.1.2,fun k hk=>?_⟩
  by_cases e:k=n
  ·rw [e];exact dW h.1.1
  ·exact h2 k au
theorem Tr.ren {C:Cx} {σ σ':St} (ρ:Nat→Nat) (ht:TrT σ ρ σ'.nk σ'.t) (hm:XY σ ρ σ'.nk σ'.M) (hi:(YO ρ (σ'.M.map (·.1)) && ae0 ρ σ'.nk C.np)=true):Tr C σ σ':=fun G a w ok=>by
 rw [aW] at hi
 obtain ⟨hi,hpn⟩:=hi
 obtain ⟨hp1,hp2⟩:=ach hpn
 refine ⟨G.ren ρ,ok.sz,⟨ok.df.1,hp1,fun k hk=>by
  show G.b (ρ k)=_∧G.n (ρ k)=_∧G.h (ρ k)=_
  rw [hp2 k hk];exact ok.df.2.2 k hk⟩,fun i av h=>?_,ok.bel,ok.fw,ok.f0,ok.f1,fun k ob h=>?_,fun k o x h1 h2=>?_,?_,?_⟩
 ·obtain ⟨h1,h2⟩:=ht.at_ i av h
  exact ⟨(ok.tm i _ h1).1,E8 h2,R.atK h2 (ok.tm i _ h1).2.2⟩
 ·obtain ⟨h1,h2,h3⟩:=hm.at_ k ob h
  obtain ⟨g1,g2,g3⟩:=ok.ob _ _ h1
  obtain ⟨p,q⟩:=oU.ren h2 g3
  exact ⟨h3,p,q⟩
 ·exact ok.my _ _ x (hm.at_ k o h1).1 h2
 ·intro k o k' o' x h1 h2 h3 h4
  have:=ok.dj _ _ _ _ x (hm.at_ k o h1).1 (hm.at_ k' o' h2).1 h3 h4
  exact OV hi k k' (DJ h1) (DJ h2) this
 ·intro k o x p u h1 h2 h3
  exact ok.dF _ _ x p u (hm.at_ k o h1).1 h2 h3
theorem zqt {C:Cx} {σ σ':St} (ρ:Nat → Nat) (ht:TrT σ ρ σ'.nk σ'.t:=by repeat (first|exact trivial|refine ⟨⟨?_,?_⟩,?_⟩|rfl)) (hm:XY σ ρ σ'.nk σ'.M:=by repeat (first|exact trivial|refine ⟨⟨?_,?_,?_⟩,?_⟩|rfl)) (hi:(YO ρ (σ'.M.map (·.1)) && ae0 ρ σ'.nk C.np) = true:=by rfl):Tr C σ σ':=Tr.ren ρ ht hm hi
theorem kL {C:Cx} {σ σ':St} (ρ:Nat → Nat) (hm:XY σ ρ σ'.nk σ'.M) (hi:(YO ρ (σ'.M.map (·.1)) && ae0 ρ σ'.nk C.np) = true) (ht:TrT σ ρ σ'.nk σ'.t:=by repeat (first|exact trivial|refine ⟨⟨?_,?_⟩,?_⟩|rfl)):Tr C σ σ':=Tr.ren ρ ht hm hi
def rem {α:Type} (k:Nat):List (Nat×α)→List (Nat×α)
 | []=>[]
 | x::r=>bif Nat.beq k x.1 then rem k r else x::rem k r
theorem nY {α:Type} (k i:Nat):∀ (l:List (Nat×α)),look i (rem k l)=if i=k then none else look i l
 | []=>by simp [rem,look]
 | x::r=>by
  have ih:=nY k i r
  by_cases e:k=x.1
  ·have hb:Nat.beq k x.1=true:=by rw [e];simp
   simp only [rem,hb,cond_true,ih]
   by_cases e2:i=k
   ·rw [if_pos e2,if_pos e2]
   ·rw [if_neg e2,if_neg e2,aj (fun h=>e2 (h.trans e.symm))]
  ·have hb:Nat.beq k x.1=false:=by
    cases hb:Nat.beq k x.1 with
    | false=>rfl
    | true=>exact absurd (dW hb) e
   simp only [rem,hb,cond_false]
   by_cases e3:i=x.1
   ·subst e3
    rw [show look x.1 (x::rem k r)=some x.2 from aA,show look x.1 (x::r)=some x.2 from aA,if_neg (fun h=>e h.symm)]
   ·rw [show look i (x::rem k r)=look i (rem k r) from aj e3,show look i (x::r)=look i r from aj e3,ih]
def St.drop(σ:St)(k:Nat):St:={ σ with M:=rem k σ.M }
def St.src (σ:St)(n:Nat):AV→Option (List (List AV))
 | .ls m rows=>bif Nat.beq m n && Nat.blt 0 m then some rows else none
 | .sl k =>
  match look k σ.M with
  | some (.row _ m rows)=>bif Nat.beq m n && Nat.blt 0 m then some rows else none
  | _=>none
 | _=>none
section
variable {P:Program} {C:Cx} {σ σ':St} {G G':Gh} {a:Act} {w w':World} {o:Oper} {d:Tmp}
theorem Ok.UD (ok:Ok C σ G a w)(k:Nat):Ok C (σ.drop k) G a w:=by
 have hl:∀ i ob,look i (σ.drop k).M=some ob→i≠k∧look i σ.M=some ob:=fun i ob h=>by
  rw [show look i (σ.drop k).M=_ from nY k i σ.M] at h
  by_cases e:i=k
  ·rw [if_pos e] at h;cases h
  ·rw [if_neg e] at h;exact⟨e,h⟩
 exact⟨ok.sz,ok.df,ok.tm,ok.bel,ok.fw,ok.f0,ok.f1,fun i ob h=>ok.ob i ob (hl i ob h).2,fun i o x h=>ok.my i o x (hl i o h).2,fun i o i' o' x h h'=>ok.dj i o i' o' x (hl i o h).2 (hl i' o' h').2,fun i o x p u h=>ok.dF i o x p u (hl i o h).2⟩
theorem kG {σ:St} {k i:Nat} {ob:AO} (h:look i (σ.drop k).M=some ob):i≠k∧look i σ.M=some ob:=by
 rw [show look i (σ.drop k).M=_ from nY k i σ.M]at h
 by_cases e:i=k
 ·rw [if_pos e]at h;cases h
 ·rw [if_neg e]at h;exact⟨e,h⟩
theorem Ok.newObj (ok:Ok C σ G a w) {S:Nat→Prop} {b n:Nat} {h:Value} {φ:Nat→Prop} {ob:AO} (hb:Kept S w w') (hS:∀ x,S x→C.may x) (hw:∀ k o x,look k σ.M=some o→G.fp k x→¬ S x) (hF:∀ p u,G.F p=some u→¬ S p.block)
  (hob:oU (G.with σ.nk b n h φ) w' σ.nk ob) (hbd:ob.bd (σ.nk+1)) (hφ:∀ x,φ x→C.may x∧x<w'.heap.size∧(∀ k o,look k σ.M=some o→¬ G.fp k x)∧∀ p u,G.F p=some u→p.block≠x) :
  Ok C (σ.new ob) (G.with σ.nk b n h φ) a w':=by
 have hle:=G.SX σ.nk b n h φ
 have hfp:=G.acJ σ.nk b n h φ
 have hbl:∀ p u,G.F p=some u→w'.heap[p.block]?=w.heap[p.block]?:=fun p u x=>hb.block _ (aN (ok.fw p u x)) (hF p u x)
 have ok1:Ok C σ (G.with σ.nk b n h φ) a w':=ok.world hle hfp hb hS (fun k o x h1 h2=>hb.block x (ok.my k o x h1 h2).2 (hw k o x h1 h2)) (fun p u x=>(World.cell?_of_block (hbl p u x)).trans (ok.fw p u x)) (fun _ _ x=>.inl x)
 refine ok1.add hob hbd fun x hx=>?_
 have e2:(G.with σ.nk b n h φ).fp σ.nk=φ:=if_pos rfl
 rw [e2] at hx
 refine ⟨(hφ x hx).1,(hφ x hx).2.1,fun k o h1=>?_,(hφ x hx).2.2.2⟩
 rw [hfp k (ok.ob k o h1).1]
 exact (hφ x hx).2.2.1 k o h1
theorem dH.rd {T n:Nat} {rows:List (List AV)} {v:Value} {φ:Nat→Prop} {X:Nat→Nat→(Nat→Prop)→AV→Value→Prop} (h:dH w T n rows v φ X) :
  ∃ A c,∃ vs:List (List Value),∃ Φ:Nat→Nat→Nat→Prop,v=.slice A vs.length c∧vs.length=rows.length∧Rd w w.heap.size n A vs∧(∀ r∈vs,r.length=n)∧(∀ r∈vs,∀ u∈r,u.oneCell'=true) ∧
   (∀ (i:Nat) r r',rows[i]?=some r→vs[i]?=some r'→r'.length=r.length)∧(∀ i j x,Φ i j x→φ x∧v.ownBlock≠some x)∧(∀ i j i' j' x,Φ i j x→Φ i' j' x→i=i'∧j=j') ∧
   ∀ (i:Nat) r r' (j:Nat) av u,rows[i]?=some r→vs[i]?=some r'→r[j]?=some av→r'[j]?=some u→X i j (Φ i j) av u:=by
 obtain ⟨hrl,vs,Φ,h4,h5,h7,hgf,U5,YK,h8,h6⟩:=h
 have hvl:∀ r∈vs,r.length=n:=by
  intro r' hr'
  exact al6
 obtain ⟨A,c,hA,hrd,_,_⟩:=FC h4 hvl rfl rfl
 exact ⟨A,c,vs,Φ,hA,h5,hrd,hvl,h7,h8,U5,YK,h6⟩
theorem Ok.azo (ok:Ok C σ G a w) {n:Nat} {av:AV} {rows:List (List AV)} {v:Value} (hs:σ.src n av=some rows) (r:R G av v) :
  ∃ A c,∃ l:List (List Value),v=.slice A rows.length c∧l.length=rows.length∧Rd w w.heap.size n A l∧(∀ r∈l,r.length=n)∧(∀ r∈l,∀ u∈r,u.oneCell'=true)∧(∀ r∈rows,r.length=n)∧∀ (i:Nat) r r',rows[i]?=some r→l[i]?=some r'→RL G.F r r':=by
 cases av with
 | ls m rows' =>
  simp only [St.src] at hs
  cases hmn:Nat.beq m n && Nat.blt 0 m with
  | true =>
   rw [hmn] at hs
   simp only [aW] at hmn
   have e:=dW hmn.1
   have h0:=dP hmn.2
   subst e
   cases hs
   obtain ⟨A,cap,ad,u,rfl,h1,h2,h3,h4,_⟩:=r.D7.Bc
   have key:∀ (i:Nat) r',((List.range rows.length).map fun i=>(List.range m).map (u i))[i]?=some r'→∃ hi:i<rows.length,r'=(List.range m).map (u i):=fun i r' h=>by
    have hi:i<rows.length:=by simpa using(List.getElem?_eq_some_iff.1 h).1
    simp [hi] at h
    exact ⟨hi,h.symm⟩
   refine ⟨A,cap,(List.range rows.length).map fun i=>(List.range m).map (u i),rfl,by simp,fun hp=>⟨ad,h2 (by simpa using hp),?_,fun k r' hr' j x hx=>?_⟩,?_,?_,h1,fun i r r' hr hr'=>?_⟩
   ·have hp:0<rows.length:=by simpa using hp
    have hr0:rows[0]?=some rows[0]:=aI hp
    have hl0:0<(rows[0]'hp).length:=by rw [h1 _ (dS hp)];exact h0
    have:=h3 0 rows[0] 0 (rows[0]'hp)[0] hr0 (aI hl0)
    have:=aN (ok.fw _ _ this.1)
    rwa [bW] at this
   ·obtain ⟨hi,rfl⟩:=key k r' hr'
    have hj:j<m:=by simpa using(List.getElem?_eq_some_iff.1 hx).1
    simp [hj] at hx
    have hlen:=h1 _ (dS hi)
    rw [← hx]
    exact ok.fw _ _ (h3 k rows[k] j _ (aI hi) (aI (by omega))).1
   ·intro r' hr'
    obtain ⟨q,hq,rfl⟩:=eu hr'
    simp
   ·intro r' hr' x hx
    obtain ⟨q,hq,rfl⟩:=eu hr'
    obtain ⟨hi,e⟩:=key q _ (aI hq)
    rw [e] at hx
    obtain ⟨j,hj,rfl⟩:=List.mem_map.1 hx
    have hj:j<m:=by simpa using hj
    have hlen:=h1 _ (dS hi)
    exact (h3 q rows[q] j _ (aI hi) (aI (by omega))).2
   ·obtain ⟨hi,rfl⟩:=key i r' hr'
    have hlen:=h1 _ (cO hr)
    refine ⟨by simp [hlen],fun j av x hav hx=>?_⟩
    have hj:j<m:=by simpa using(List.getElem?_eq_some_iff.1 hx).1
    simp [hj] at hx
    rw [← hx]
    exact h4 i r j av hr hav
  | false=>rw [hmn] at hs;cases hs
 | sl k =>
  simp only [St.src] at hs
  cases hk:look k σ.M with
  | none=>simp [hk] at hs
  | some ob =>
   cases ob with
   | box T cells=>simp [hk] at hs
   | jM T m rows'=>simp [hk] at hs
   | EF T m rows' hi hj y=>simp [hk] at hs
   | oW T m rows' hi hj y=>simp [hk] at hs
   | xq T e l=>simp [hk] at hs
   | opq q=>simp [hk] at hs
   | row T m rows' =>
    simp only [hk] at hs
    cases hmn:Nat.beq m n && Nat.blt 0 m with
    | true =>
     rw [hmn] at hs
     simp only [aW] at hmn
     have e:=dW hmn.1
     subst e
     cases hs
     have hob:=(ok.ob k _ hk).2.2
     obtain ⟨hn,hg,hR⟩:=hob
     obtain ⟨A,c,vs,Φ,hA,h5,hrd,hvl,h7,h8,_,_,h6⟩:=hR.rd
     exact ⟨A,c,vs,by rw [r.nG.1,hA,h5],h5,hrd,hvl,h7,hR.1,fun i r r' hr hr'=>⟨h8 i r r' hr hr',fun j av u hav hu=>h6 i r r' j av u hr hr' hav hu⟩⟩
    | false=>rw [hmn] at hs;cases hs
 | _=>cases hs
theorem dH.app {T e n X7:Nat} {z:Value} {i:TypeInfo} {ty:TypeId} {rows fV:List (List AV)} {v:Value} {φ φ2:Nat→Prop} {Y:World→(Nat→Prop)→AV→Value→Prop} (h:dH w e n rows v φ (fun _ _=>Y w)) (hT:P.underlying T=some (.slice e))
  (hi:P.info? e=some i) (hz:i.zero=some z) (hn:i.size=n) (hby:i.bytes=X7) (hzs:z.cells.size=n) (h0:0<n) {A:Option Addr} {c:Nat} {l:List (List Value)} {Ψ:Nat→Nat→Nat→Prop}
  (hrd:Rd w w.heap.size n A l) (hl:l.length=fV.length) (hll:∀ r∈l,r.length=n) (hl1:∀ r∈l,∀ u∈r,u.oneCell'=true) (hrl2:∀ r∈fV,r.length=n)
  (hlen2:∀ (i:Nat) r r',fV[i]?=some r→l[i]?=some r'→r'.length=r.length) (hΨ:∀ i j x,Ψ i j x→φ2 x) (asO:∀ i j i' j' x,Ψ i j x→Ψ i' j' x→i=i'∧j=j') (hdj:∀ x,φ x→φ2 x→False) (hlt:∀ x,φ x∨φ2 x→x<w.heap.size)
  (OT:∀ (i:Nat) r r' (j:Nat) av u,fV[i]?=some r→l[i]?=some r'→r[j]?=some av→r'[j]?=some u→Y w (Ψ i j) av u)
  (hY:∀ w' ψ av u,(∀ x,ψ x→w'.heap[x]?=w.heap[x]?)→Y w ψ av u→Y w' ψ av u) (hb1:rows.length+fV.length≤1000000000) (hb2:X7≤100000) :
  ∃ v' w',(Builtin.append_ #[T,T] ty #[v,.slice A l.length c]).run P w=.ok v' w'∧w.grownBy w' v.ownBlock∧(v'.ownBlock=v.ownBlock∨v'.ownBlock=some w.heap.size)∧v'.oneCell'=true ∧
   dH w' e n (rows++fV) v' (fun x=>v'.ownBlock=some x∨φ x∨φ2 x) (fun _ _=>Y w'):=by
 obtain ⟨hrl,vs,Φ,h4,h5,h7,hgf,U5,YK,h8,h6⟩:=h
 obtain ⟨v',w',hrun,q1,q2,q3⟩:=Bj (P:=P) (A:=A) (l:=l) 0 T ty e i z n X7 hT hi hz hn hby hzs h0 v vs.length vs.flatten h4 c hrd hll hl1 (by rw [h5,hl];unfold maxLen;omega) (by rw [h5,hl];exact jV (Nat.mul_le_mul hb1 hb2) (by decide)) (gU _)
 have hone:v'.oneCell'=true:=by rcases q1.2 with⟨e,_⟩|⟨g,cap,cur,e,_⟩<;>rw [e]<;>rfl
 have hno:∀ i j x,Φ i j x→some x≠v'.ownBlock:=fun i j x hx e=>by
  have:=hlt x (.inl (U5 i j x hx).1)
  rcases q3 with q|q
  ·exact (U5 i j x hx).2 (q.symm.trans e.symm)
  ·rw [q] at e;cases e;omega
 have ag2:∀ i j x,Ψ i j x→some x≠v'.ownBlock:=fun i j x hx e=>by
  have:=hlt x (.inr (hΨ i j x hx))
  rcases q3 with q|q
  ·exact hdj x (hgf x (q.symm.trans e.symm)) (hΨ i j x hx)
  ·rw [q] at e;cases e;omega
 refine ⟨v',w',hrun,q2,q3,hone,fun r hr=>(List.mem_append.1 hr).elim (hrl r) (hrl2 r),vs++l,fun i j x=>if i<rows.length then Φ i j x else Ψ (i-rows.length) j x,?_,by rw [aY,aY,h5,hl],
  fun r hr=>(List.mem_append.1 hr).elim (h7 r) (hl1 r),fun g hg=>.inl hg,fun i j x hx=>?_,fun i j i' j' x h1 h2=>?_,fun j r r' hr hr'=>?_,fun j r r' s av u hr hr' hs hu=>?_⟩
 ·rw [aY,List.flatten_append];exact q1
 ·have hx:if i<rows.length then Φ i j x else Ψ (i-rows.length) j x:=hx
  by_cases hi:i<rows.length
  ·rw [if_pos hi] at hx
   exact ⟨.inr (.inl (U5 i j x hx).1),fun e=>hno i j x hx e.symm⟩
  ·rw [if_neg hi] at hx
   exact ⟨.inr (.inr (hΨ _ j x hx)),fun e=>ag2 _ j x hx e.symm⟩
 ·have h1:if i<rows.length then Φ i j x else Ψ (i-rows.length) j x:=h1
  have h2:if i'<rows.length then Φ i' j' x else Ψ (i'-rows.length) j' x:=h2
  by_cases hi:i<rows.length<;>by_cases hi':i'<rows.length
  ·rw [if_pos hi] at h1;rw [if_pos hi'] at h2;exact YK i j i' j' x h1 h2
  ·rw [if_pos hi] at h1;rw [if_neg hi'] at h2;exact (hdj x (U5 i j x h1).1 (hΨ _ j' x h2)).elim
  ·rw [if_neg hi] at h1;rw [if_pos hi'] at h2;exact (hdj x (U5 i' j' x h2).1 (hΨ _ j x h1)).elim
  ·rw [if_neg hi] at h1;rw [if_neg hi'] at h2
   obtain ⟨e1,e2⟩:=asO _ j _ j' x h1 h2
   exact ⟨by omega,e2⟩
 ·by_cases hj:j<rows.length
  ·rw [qJ hj] at hr
   rw [qJ (by omega)] at hr'
   exact h8 j r r' hr hr'
  ·rw [o8 (by omega)] at hr
   rw [o8 (by omega),h5] at hr'
   exact hlen2 _ r r' hr hr'
 ·have go:∀ ψ:Nat→Prop,(∀ x,ψ x→x<w.heap.size∧some x≠v.ownBlock)→Y w ψ av u→Y w' ψ av u:=fun ψ Uh y=>hY w' ψ av u (fun x hx=>q2.block x (Uh x hx).1 (Uh x hx).2) y
  by_cases hj:j<rows.length
  ·rw [qJ hj] at hr
   rw [qJ (by omega)] at hr'
   have e:(fun x=>if j<rows.length then Φ j s x else Ψ (j-rows.length) s x)=Φ j s:=by funext x;rw [if_pos hj]
   show Y w' (fun x=>if j<rows.length then Φ j s x else Ψ (j-rows.length) s x) av u
   rw [e]
   exact go _ (fun x hx=>⟨hlt x (.inl (U5 _ _ x hx).1),fun e=>(U5 _ _ x hx).2 e.symm⟩) (h6 j r r' s av u hr hr' hs hu)
  ·rw [o8 (by omega)] at hr
   rw [o8 (by omega),h5] at hr'
   have e:(fun x=>if j<rows.length then Φ j s x else Ψ (j-rows.length) s x)=Ψ (j-rows.length) s:=by funext x;rw [if_neg hj]
   show Y w' (fun x=>if j<rows.length then Φ j s x else Ψ (j-rows.length) s x) av u
   rw [e]
   exact go _ (fun x hx=>⟨hlt x (.inr (hΨ _ _ x hx)),fun e=>hdj x (hgf x e.symm) (hΨ _ _ x hx)⟩) (OT _ r r' s av u hr hr' hs hu)
theorem Ht {x y:Operand} {T:TypeId} {A:Option Addr} {len c:Nat} {v v':Value} {N:Act→World→Prop} {Q':Exit→Act→World→Prop} (ho:o.op=.call { callee:=.builtin .append,args:=#[x,y],argTypes:=#[T,T] })(ex:a.eval x=v)(ey:a.eval y=.slice A len c)
  (hrun:(Builtin.append_ #[T,T] o.type #[v,.slice A len c]).run P w=.ok v' w')(hN:N (a.put o.dst v') w'):o.wp P a w N Q':=by
 refine lJ ?_
 have hargs:(#[x,y]:Array Operand).map a.eval=#[v,.slice A len c]:=by simp [ex,ey]
 simp only [ho,resolve,invoke,builtin,Sem.run_bind,Sem.run_pure,Result.andThen_ok,hargs,hrun,Oper.upon]
 exact hN
theorem Ok.joined (ok:Ok C σ G a w) {k:Nat} {ob ob':AO} {n:Nat} {v v':Value} {φ2:Nat→Prop} {gone:List Nat} {σd:St} (okd:Ok C σd G a w) (hd:∀ i o,look i σd.M=some o→i≠k∧look i σ.M=some o∧¬ i∈gone) (hnk:σd.nk=σ.nk)
  (hk:look k σ.M=some ob) (hv:∀ x,v.ownBlock=some x→G.fp k x) (ay1:∀ x,φ2 x→∃ q o,q∈gone∧look q σ.M=some o∧G.fp q x)
  (hg:w.grownBy w' v.ownBlock) (hv':v'.ownBlock=v.ownBlock∨v'.ownBlock=some w.heap.size) (hvs:∀ x,v'.ownBlock=some x→x<w'.heap.size)
  (hob:oU (G.with σd.nk (v'.ownBlock.getD 0) n v' (fun x=>v'.ownBlock=some x∨G.fp k x∨φ2 x)) w' σd.nk ob') (hbd:ob'.bd (σd.nk+1)) :
  Ok C (σd.new ob') (G.with σd.nk (v'.ownBlock.getD 0) n v' (fun x=>v'.ownBlock=some x∨G.fp k x∨φ2 x)) a w':=by
 refine okd.newObj (S:=fun x=>v.ownBlock=some x) ⟨hg.os,hg.tape,hg.output,hg.size,fun x h1 h2=>hg.block x h1 fun e=>h2 e.symm⟩ (fun x hx=>(ok.my k _ x hk (hv x hx)).1)
  (fun i o x h1 h2 h3=>(hd i o h1).1 (ok.dj i o k ob x (hd i o h1).2.1 hk h2 (hv x h3))) (fun p u h1 h2=>ok.dF k ob _ p u hk (hv _ h2) h1 rfl) hob hbd fun x hx=>?_
 have old:∀ q o x,look q σ.M=some o→G.fp q x→(q=k∨q∈gone)→C.may x∧x<w'.heap.size∧(∀ i o,look i σd.M=some o→¬ G.fp i x)∧∀ p u,G.F p=some u→p.block≠x:=fun q o x h1 h2 h3 =>
  ⟨(ok.my q o x h1 h2).1,lH (ok.my q o x h1 h2).2 hg.size,fun i oi hi h4=>by
   obtain ⟨d1,d2,d3⟩:=hd i oi hi
   have:=ok.dj i oi q o x d2 h1 h4 h2
   rcases h3 with h3|h3
   ·exact d1 (this.trans h3)
   ·exact d3 (this ▸ h3),fun p u=>ok.dF q o x p u h1 h2⟩
 rcases hx with hx|hx|hx
 ·rcases hv' with e|e
  ·exact old k ob x hk (hv x (e.symm.trans hx)) (.inl rfl)
  ·have hxx:x=w.heap.size:=by rw [e] at hx;exact (Option.some.inj hx).symm
   refine ⟨.inl (by rw [hxx];exact ok.bel.size),hvs x hx,fun i o h1 h2=>?_,fun p u h1 h2=>?_⟩
   ·have:=(ok.my i o x (hd i o h1).2.1 h2).2;omega
   ·have:=aN (ok.fw p u h1);omega
 ·exact old k ob x hk hx (.inl rfl)
 ·obtain ⟨q,o,h1,h2,h3⟩:=ay1 x hx
  exact old q o x h2 h3 (.inr h1)
theorem dH.lt {T n:Nat} {rows:List (List AV)} {v:Value} {φ:Nat→Prop} {X:Nat→Nat→(Nat→Prop)→AV→Value→Prop} (h:dH w T n rows v φ X):∀ x,v.ownBlock=some x→x<w.heap.size:=fun x hx=>by
 obtain⟨_,vs,Φ,h4,_⟩:=h
 rcases h4.2 with⟨e,_⟩|⟨g,cap,cur,e,_,hh,_⟩
 ·rw [e]at hx;cases hx
 ·rw [e]at hx
  obtain rfl:g=x:=Option.some.inj hx
  exact (Array.getElem?_eq_some_iff.1 hh).1
theorem dH.fp {T n:Nat} {rows:List (List AV)} {v:Value} {φ:Nat→Prop} {X:Nat→Nat→(Nat→Prop)→AV→Value→Prop} (h:dH w T n rows v φ X):∀ x,v.ownBlock=some x→φ x:=by
 obtain⟨_,vs,Φ,h4,_,_,h7,_⟩:=h
 exact h7
theorem iL {G:Gh} {k b n:Nat} {v:Value} {φ:Nat→Prop}:(G.with k b n v φ).h k=v:=if_pos rfl
theorem xZ {G:Gh} {k b n:Nat} {v:Value} {φ:Nat→Prop}:(G.with k b n v φ).b k=b:=if_pos rfl
theorem x9 {G:Gh} {k b n:Nat} {v:Value} {φ:Nat→Prop}:(G.with k b n v φ).n k=n:=if_pos rfl
theorem uS {G:Gh} {k b n:Nat} {v:Value} {φ:Nat→Prop} (h:v.oneCell'=true):R (G.with k b n v φ) (.sl k) v:=by
 have:=R.sl (G:=G.with k b n v φ) k (by rw [iL];exact h)
 rwa [iL] at this
theorem vN {G:Gh} {k b n:Nat} {v:Value} {φ:Nat→Prop}:(G.with k b n v φ).fp k=φ:=if_pos rfl
theorem WO.append {T e n X7 k m:Nat} {z:Value} {i:TypeInfo} {x y:Operand} {rows fV rows':List (List AV)} {av2:AV} (ho:o.op=.call { callee:=.builtin .append,args:=#[x,y],argTypes:=#[T,T] }) (hT:P.underlying T=some (.slice e))
  (hi:P.info? e=some i) (hz:i.zero=some z) (hn:i.size=n) (hby:i.bytes=X7) (hzs:z.cells.size=n) (h0:Nat.blt 0 n=true) (hds:o.dst=some d) (hd:Nat.blt d C.N=true)
  (hx:σ.ev x=some (.sl k)) (hk:look k σ.M=some (.row e n rows)) (hy:σ.ev y=some av2) (hs:σ.src n av2=some fV) (hm:σ.nk=m) (hb1:rows.length+fV.length≤1000000000) (hb2:Nat.ble X7 100000=true) (hrr:rows++fV=rows') :
  WO P C o σ (((σ.drop k).new (.row e n rows')).put d (.sl m)):=by
 intro G a w ok N Q' hN
 obtain ⟨A,c,l,ey,hl,hrd,hll,hl1,hrl2,OT⟩:=ok.azo hs (ok.nO hy).2
 obtain ⟨hn',hg,hR⟩:=(ok.ob k _ hk).2.2
 obtain ⟨v',w',hrun,q2,q3,hone,hR'⟩:=dH.app (P:=P) (ty:=o.type) (c:=c) (Y:=fun _ _ av u=>RP G.F av u) (φ2:=fun _=>False) (Ψ:=fun _ _ _=>False) hR hT hi hz hn hby hzs (dP h0) hrd hl hll hl1 hrl2 (fun i r r' a b=>(OT i r r' a b).1) (fun _ _ _ h=>h) (fun _ _ _ _ _ h=>h.elim) (fun _ _ h=>h)
  (fun x hx=>hx.elim (fun h=>(ok.my k _ x hk h).2) False.elim) (fun i r r' j av u a b c d=>(OT i r r' a b).2 j av u c d) (fun _ _ _ _ _ h=>h) hb1 (bU hb2)
 rw [← hl] at ey
 have ok':=ok.joined (gone:=[]) (n:=n) (v':=v') (φ2:=fun _=>False) (ob':=.row e n rows') (okd:=ok.UD k) (fun i o h=>⟨(kG h).1,(kG h).2,by simp⟩) rfl hk hR.fp (fun x h=>h.elim) q2 q3 hR'.lt
  ⟨x9,(fun g hg=>by rw [iL] at hg;rw [xZ,hg];rfl),by rw [iL,vN,← hrr];exact hR'⟩ trivial
 refine Ht ho (ok.nO hx).2.nG.1 ey hrun ?_
 rw [hds]
 subst hm
 exact hN _ _ _ (ok'.set (d:=some d) (av:=.sl σ.nk) (v:=v') (by have:=R.sl (G:=G.with σ.nk (v'.ownBlock.getD 0) n v' (fun x=>v'.ownBlock=some x∨G.fp k x∨False)) σ.nk (by rw [iL];exact hone);rw [iL] at this;exact this) (.sl _ (wQ _)) fun x hx=>by cases hx;exact dP hd)
theorem WO.aa1 {T e n X7 k q m:Nat} {z:Value} {i:TypeInfo} {x y:Operand} {rows fV rows':List (List AV)} {e2:TypeId} (ho:o.op=.call { callee:=.builtin .append,args:=#[x,y],argTypes:=#[T,T] }) (hT:P.underlying T=some (.slice e))
  (hi:P.info? e=some i) (hz:i.zero=some z) (hn:i.size=n) (hby:i.bytes=X7) (hzs:z.cells.size=n) (h0:Nat.blt 0 n=true) (hds:o.dst=some d) (hd:Nat.blt d C.N=true)
  (hx:σ.ev x=some (.sl k)) (hk:look k σ.M=some (.jM e n rows)) (hy:σ.ev y=some (.sl q)) (hq:look q σ.M=some (.jM e2 n fV)) (hkq:Nat.beq k q=false) (hm:σ.nk=m) (hb1:rows.length+fV.length≤1000000000) (hb2:Nat.ble X7 100000=true) (hrr:rows++fV=rows') :
  WO P C o σ ((((σ.drop k).drop q).new (.jM e n rows')).put d (.sl m)):=by
 intro G a w ok N Q' hN
 have ayD:k≠q:=fun e=>by rw [e,Qm] at hkq;cases hkq
 obtain ⟨hn',hg,hR⟩:=(ok.ob k _ hk).2.2
 obtain ⟨hn2,hg2,hR2⟩:=(ok.ob q _ hq).2.2
 obtain ⟨A,c,l,Ψ,hA,hl,hrd,hll,hl1,hlen,hΨ,asO,OT⟩:=hR2.rd
 have ey:a.eval y=.slice A l.length c:=(ok.nO hy).2.nG.1.trans hA
 obtain ⟨v',w',hrun,q2,q3,hone,hR'⟩:=dH.app (P:=P) (ty:=o.type) (c:=c) (Y:=fun w ψ av u=>OW G.F w av u ψ) (φ2:=G.fp q) (Ψ:=Ψ) hR hT hi hz hn hby hzs (dP h0) hrd hl hll hl1 hR2.1 hlen (fun i j x h=>(hΨ i j x h).1) asO (fun x h1 h2=>ayD (ok.dj k _ q _ x hk hq h1 h2))
  (fun x hx=>hx.elim (fun h=>(ok.my k _ x hk h).2) fun h=>(ok.my q _ x hq h).2) OT (fun _ _ _ _ hw h=>h.keep (fun _ _ h=>h) hw) hb1 (bU hb2)
 have ok':=ok.joined (gone:=[q]) (n:=n) (v':=v') (φ2:=G.fp q) (ob':=.jM e n rows') (okd:=(ok.UD k).UD q) (fun i o h=>⟨(kG (kG h).2).1,(kG (kG h).2).2,by simp;exact (kG h).1⟩) rfl hk hR.fp (fun x h=>⟨q,_,by simp,hq,h⟩) q2 q3 hR'.lt
  ⟨x9,(fun g hg=>by rw [iL] at hg;rw [xZ,hg];rfl),by rw [iL,vN,← hrr];exact hR'⟩ trivial
 refine Ht ho (ok.nO hx).2.nG.1 ey hrun ?_
 rw [hds]
 subst hm
 exact hN _ _ _ (ok'.set (d:=some d) (av:=.sl σ.nk) (v:=v') (by have:=R.sl (G:=G.with σ.nk (v'.ownBlock.getD 0) n v' (fun x=>v'.ownBlock=some x∨G.fp k x∨G.fp q x)) σ.nk (by rw [iL];exact hone);rw [iL] at this;exact this) (.sl _ (wQ _)) fun x hx=>by cases hx;exact dP hd)
theorem Ok.nilRow (ok:Ok C σ G a w) (T:TypeId) (n:Nat):∃ G',Ok C (σ.new (.row T n [])) G' a w∧R G' (.sl σ.nk) (.slice none 0 0) :=
 ⟨_,ok.newObj (S:=fun _=>False) (b:=0) (n:=n) (h:=.slice none 0 0) (φ:=fun _=>False) (ob:=.row T n []) (Kept.refl _ w) (fun _ h=>h.elim) (fun _ _ _ _ _ h=>h) (fun _ _ _ h=>h)
  ⟨x9,(fun g hg=>by rw [iL] at hg;cases hg),by
   rw [iL,vN]
   exact ⟨by simp,[],fun _ _ _=>False,⟨by simp,.inl ⟨rfl,rfl⟩⟩,rfl,by simp,(fun g hg=>by cases hg),fun _ _ _ h=>h.elim,fun _ _ _ _ _ h=>h.elim,fun i r r' h=>by simp at h,fun i r r' j av u h=>by simp at h⟩⟩ trivial (fun x h=>h.elim),uS rfl⟩
theorem Ok.ZM (ok:Ok C σ G a w) {t:Tmp} {av XZ:AV} (h:look t σ.t=some av)(hb:Bd σ.nk XZ)(hr:∀ v,R G av v→R G XZ v):Ok C (σ.put t XZ) G a w:=by
 have h1:=ok.tm t _ h
 refine⟨ok.sz,ok.df,fun i x hx=>?_,ok.bel,ok.fw,ok.f0,ok.f1,ok.ob,ok.my,ok.dj,ok.dF⟩
 by_cases e:i=t
 ·subst e
  rw [show look i (St.put σ i XZ).t=some XZ from aA] at hx
  cases hx
  exact⟨h1.1,hb,hr _ h1.2.2⟩
 ·rw [show look i (St.put σ t XZ).t=look i σ.t from aj e] at hx
  exact ok.tm i x hx
theorem Ok.ae8 (ok:Ok C σ G a w) {k:Nat} {ob ob':AO} (hk:look k σ.M=some ob) (h:k<σ.nk∧ob'.bd σ.nk∧oU G w k ob'):Ok C (σ.upd k ob') G a w:=by
 have hl:∀ k' o,look k' (σ.upd k ob').M=some o→(k'=k∧o=ob')∨look k' σ.M=some o:=fun k' o hx=>by
  by_cases e:k'=k
  ·subst e
   rw [show look k' (σ.upd k' ob').M=some ob' from aA] at hx
   cases hx
   exact NG
  ·rw [show look k' (σ.upd k ob').M=look k' σ.M from aj e] at hx
   exact .inr hx
 have some_:∀ k' o,look k' (σ.upd k ob').M=some o→∃ o',look k' σ.M=some o':=fun k' o h=>by
  rcases hl k' o h with⟨rfl,_⟩|y
  ·exact ⟨_,hk⟩
  ·exact ⟨o,y⟩
 refine ⟨ok.sz,ok.df,ok.tm,ok.bel,ok.fw,ok.f0,ok.f1,fun k' o h'=>?_,fun k' o x h1 h2=>?_,fun k1 o1 k2 o2 x h1 h2=>?_,fun k1 o1 x p u h1=>?_⟩
 ·rcases hl k' o h' with⟨rfl,rfl⟩|y
  ·exact h
  ·exact ok.ob k' o y
 ·obtain ⟨o',y⟩:=some_ k' o h1
  exact ok.my k' o' x y h2
 ·obtain ⟨o1',y1⟩:=some_ k1 o1 h1
  obtain ⟨o2',y2⟩:=some_ k2 o2 h2
  exact ok.dj k1 o1' k2 o2' x y1 y2
 ·obtain ⟨o1',y1⟩:=some_ k1 o1 h1
  exact ok.dF k1 o1' x p u y1
theorem Tr.nil {t:Tmp} {m:Nat} (T:TypeId)(n:Nat)(h:look t σ.t=some (.sc (.slice none 0 0)))(hm:σ.nk=m):Tr C σ ((σ.new (.row T n [])).put t (.sl m)):=fun G a w ok=>by
 obtain⟨G',ok',hsl⟩:=ok.nilRow T n
 subst hm
 exact⟨G',ok'.ZM (av:=.sc (.slice none 0 0)) h (.sl _ (wQ _)) fun v hv=>by rw [hv.fB];exact hsl⟩
theorem Tr.widen (k:Nat) {T n:Nat} {rows:List (List AV)} (hk:look k σ.M=some (.row T n rows)):Tr C σ (σ.upd k (.jM T n rows)):=fun G a w ok=>by
 obtain ⟨g1,g2,g3,g4,g5⟩:=ok.ob k _ hk
 exact ⟨G,ok.ae8 hk ⟨g1,trivial,g3,g4,g5.keep (fun _ _=>rfl) fun i r j av ψ u _ _ _ x=>.pu _ _ _ x⟩⟩
end
def AV.adQ (k n:Nat)(rows:List (List AV)):AV→AV
 | .sl q=>bif Nat.beq q k then .ls n rows else .sl q
 | av=>av
def AV.UY (k n:Nat)(rows:List (List AV)):AV→AV
 | .fn f l=>.fn f (l.map (AV.adQ k n rows))
 | av=>av.adQ k n rows
def AV.am8 (k n:Nat)(rows:List (List AV)):AV→AV
 | .ag l=>.ag (l.map (AV.UY k n rows))
 | av=>av.UY k n rows
def AV.frz (k n:Nat)(rows:List (List AV)):AV→AV
 | .tu l=>.tu (l.map (AV.am8 k n rows))
 | av=>av.am8 k n rows
def AO.frz (k n:Nat)(rows:List (List AV)):AO→AO
 | .box T cells=>.box T (cells.map (AV.UY k n rows))
 | .EF T m rs hi hj x=>.EF T m rs hi hj (x.UY k n rows)
 | .oW T m rs hi hj x=>.oW T m rs hi hj (x.UY k n rows)
 | ob=>ob
def aeb {α β:Type} (f:α→β):List (Nat×α)→List (Nat×β)
 | []=>[]
 | x::r=>(x.1,f x.2)::aeb f r
theorem wz {α β:Type} (f:α→β)(i:Nat):∀ (l:List (Nat×α)),look i (aeb f l)=(look i l).map f
 | []=>rfl
 | x::r=>by
  by_cases e:i=x.1
  ·subst e
   rw [show look x.1 (x::r)=some x.2 from aA]
   exact aA
  ·rw [show look i (x::r)=look i r from aj e,← wz f i r]
   exact aj e
def St.freeze (σ:St) (k n:Nat) (rows:List (List AV)):St:=⟨aeb (AV.frz k n rows) σ.t,aeb (AO.frz k n rows) (rem k σ.M),σ.nk⟩
def AV.fz:Nat→AV→AV
 | d+1,.ow _ n rows=>.ls n (rows.map fun r=>r.map (AV.fz d))
 | _,av=>av
def AV.Oo:Nat→AV→Bool
 | 0,.ow _ _ _=>false
 | d+1,.ow _ _ rows=>rows.all fun r=>r.all (AV.Oo d)
 | _,_=>true
section
variable {P:Program} {C:Cx} {σ σ':St} {G G':Gh} {a:Act} {w w':World} {o:Oper} {d:Tmp}
theorem Fe {Q:AV→AV} {l:List AV} {cs:Array Value} (h1:cs.size=l.length)(h2:∀ (i:Nat) av u,l[i]?=some av→cs[i]?=some u→R G av u)(hq:∀ av u,R G av u→R G (Q av) u) :
  cs.size=(l.map Q).length∧∀ (i:Nat) av u,(l.map Q)[i]?=some av→cs[i]?=some u→R G av u:=by
 refine⟨by simpa using h1,fun i av u x y=>?_⟩
 rw [bT] at x
 cases hx:l[i]? with
 | none=>simp [hx] at x
 | some b=>simp [hx] at x;rw [← x];exact hq _ _ (h2 i b u hx y)
theorem uI {Q:AV→AV} {nk:Nat} {l:List AV} (h:∀ (i:Nat)x,l[i]?=some x→Bd nk x)(hq:∀ av,Bd nk av→Bd nk (Q av)):∀ (i:Nat)x,(l.map Q)[i]?=some x→Bd nk x:=fun i x hx=>by
 rw [bT]at hx
 cases hq':l[i]? with
 | none=>simp [hq']at hx
 | some y=>simp [hq']at hx;rw [← hx];exact hq _ (h i y hq')
section
variable {k n nk:Nat} {rows:List (List AV)} {av:AV} {v:Value}
theorem Rf (h:R G (.ls n rows) (G.h k)) (r:R G av v):R G (av.adQ k n rows) v:=by
 cases av with
 | sl q =>
  simp only [AV.adQ]
  cases e:Nat.beq q k with
  | true=>obtain rfl:=dW e;rw [r.nG.1];exact h
  | false=>exact r
 | _=>exact r
theorem IY (b:Bd nk av):Bd nk (av.adQ k n rows):=by
 cases av with
 | sl q =>
  simp only [AV.adQ]
  cases e:Nat.beq q k with
  | true=>exact .ls _ _
  | false=>exact b
 | _=>exact b
theorem EW (h:R G (.ls n rows) (G.h k)) (r:R G av v):R G (av.UY k n rows) v:=by
 cases av with
 | fn f l =>
  obtain ⟨cs,rfl,h1,h2⟩:=r.A8
  obtain ⟨q1,q2⟩:=Fe h1 h2 fun _ _=>Rf h
  exact .fn f _ cs q1 q2
 | sl q=>exact Rf (av:=.sl q) h r
 | _=>exact r
theorem Af (b:Bd nk av):Bd nk (av.UY k n rows):=by
 cases av with
 | fn f l=>cases b with|fn _ _ hb=>exact .fn f _ (uI hb fun _=>IY)
 | sl q=>exact IY (av:=.sl q) b
 | _=>exact b
theorem agF (h:R G (.ls n rows) (G.h k)) (r:R G av v):R G (av.am8 k n rows) v:=by
 cases av with
 | ag l =>
  obtain ⟨cs,rfl,h1,h2⟩:=r.AX
  obtain ⟨q1,q2⟩:=Fe h1 h2 fun _ _=>EW h
  exact .ag _ cs q1 q2
 | fn f l=>exact EW (av:=.fn f l) h r
 | sl q=>exact Rf (av:=.sl q) h r
 | _=>exact r
theorem abA (b:Bd nk av):Bd nk (av.am8 k n rows):=by
 cases av with
 | ag l=>cases b with|ag _ hb=>exact .ag _ (uI hb fun _=>Af)
 | fn f l=>exact Af (av:=.fn f l) b
 | sl q=>exact IY (av:=.sl q) b
 | _=>exact b
theorem au5 (h:R G (.ls n rows) (G.h k)) (r:R G av v):R G (av.frz k n rows) v:=by
 cases av with
 | tu l =>
  obtain ⟨cs,rfl,h1,h2⟩:=r.Qi
  obtain ⟨q1,q2⟩:=Fe h1 h2 fun _ _=>agF h
  exact .tu _ cs q1 q2
 | ag l=>exact agF (av:=.ag l) h r
 | fn f l=>exact EW (av:=.fn f l) h r
 | sl q=>exact Rf (av:=.sl q) h r
 | _=>exact r
theorem asb (b:Bd nk av):Bd nk (av.frz k n rows):=by
 cases av with
 | tu l=>cases b with|tu _ hb=>exact .tu _ (uI hb fun _=>abA)
 | ag l=>exact abA (av:=.ag l) b
 | fn f l=>exact Af (av:=.fn f l) b
 | sl q=>exact IY (av:=.sl q) b
 | _=>exact b
theorem asa {φ:Nat→Prop} (h:R G (.ls n rows) (G.h k)) (r:CR G w φ av v):CR G w φ (av.UY k n rows) v:=by
 rcases r with r|o
 ·exact .inl (EW h r)
 ·by_cases ho:av.own=true
  ·exact ade
  ·exact .inl (EW h (.pu _ _ (OW.p o XR)))
end
theorem dH.fix {T n:Nat} {rows:List (List AV)} {v:Value} {φ:Nat→Prop} {X:Nat→Nat→(Nat→Prop)→AV→Value→Prop} {F':View} (f:AV→AV) (h:dH w T n rows v φ X) (hF:∀ p,φ p.block→F' p=w.cell? p)
    (hX:∀ (i:Nat) r (j:Nat) av u ψ,rows[i]?=some r→r[j]?=some av→(∀ x,ψ x→φ x)→X i j ψ av u→RP F' (f av) u):RP F' (.ls n (rows.map fun r=>r.map f)) v:=by
  have hfp:=h.2
  obtain ⟨vs0,_,_,_,_,hgf,_⟩:=hfp
  obtain ⟨A,c,vs,Φ,hA,h5,hrd,hvl,h7,h8,U5,_,h6⟩:=h.rd
  have hrl:=h.1
  have h4:=h.2
  obtain ⟨vs1,Φ1,h4,h51,_⟩:=h4
  have hcap:rows.length≤c:=by
    rcases h4.2 with⟨e,e2⟩|⟨g,cap,cur,e,_,_,hnc,_⟩
    · omega
    · rw [e] at hA;injection hA with _ _ hA;omega
  have hgA:∀ ad,A=some ad→φ ad.block:=fun ad e=>by
    rcases h4.2 with⟨e1,e2⟩|⟨g,cap,cur,e1,_⟩
    · rw [e1,e] at hA;cases hA
    · rw [e1,e] at hA;injection hA with hA _ _;cases hA
      exact hgf g (by rw [e1];rfl)
  have hv:v=.slice A (rows.map fun r=>r.map f).length c:=by rw [hA,aH,h5]
  rw [hv]
  by_cases hp:0<rows.length
  · obtain ⟨ad,had,_⟩:=hrd au
    refine .ls n _ A c ad (fun i j=>((vs.getD i []).getD j undef)) (by simpa using hcap) (fun r hr=>?_) (fun _=>had) (fun i r j av hr hav=>?_) (fun i r j av hr hav=>?_)
    · obtain ⟨r',hr',rfl⟩:=List.mem_map.1 hr
      rw [aH];exact hrl _ hr'
    all_goals
      rw [bT] at hr
      cases hr0:rows[i]? with
      | none=>simp [hr0] at hr
      | some r0 =>
        simp only [hr0,oM,Option.some.injEq] at hr
        subst hr
        rw [bT] at hav
        cases agV:r0[j]? with
        | none=>simp [agV] at hav
        | some av0 =>
          simp only [agV,oM,Option.some.injEq] at hav
          subst hav
          have hi:i<rows.length:=(List.getElem?_eq_some_iff.1 hr0).1
          have hv:vs[i]?=some vs[i]:=aI (by omega)
          have e1:=h8 i r0 _ hr0 hv
          have hj:j<vs[i].length:=by rw [e1];exact (List.getElem?_eq_some_iff.1 agV).1
          have hu:(vs.getD i []).getD j undef=vs[i][j]:=by simp [List.getD,hv,hj]
          simp only [hu]
          first
            | (refine ⟨?_,h7 _ (dS _) _ (dS _)⟩
               obtain ⟨ad',avo,_,hc⟩:=Rd.at_ (k:=i) hrd au
               obtain rfl:ad'=ad:=by rw [had] at avo;exact (Option.some.inj avo).symm
               rw [hF _ (by rw [bW];exact hgA _ had)]
               exact hc j _ (aI hj))
            |exact hX i r0 j av0 _ _ hr0 agV (fun x hx=>(U5 i j x hx).1) (h6 i r0 _ j av0 _ hr0 hv agV (aI hj))
  · have h0:rows=[]:=oN au
    subst h0
    exact .ls n [] A c ⟨0,0,none⟩ (fun _ _=>undef) (by simp) (by simp) (fun h=>absurd h (by simp)) (fun i r j av h=>by simp at h) (fun i r j av h=>by simp at h)
theorem au6 {d:Nat} {av:AV} (h:av.own=false):av.fz d=av:=by
 cases d<;>cases av<;>first|rfl|cases h
theorem OW.fix {F F':View} (hle:F.le F'):∀ (d:Nat) {av:AV} {v:Value} {φ:Nat→Prop},OW F w av v φ→(∀ p,φ p.block→F' p=w.cell? p)→av.Oo d=true→RP F' (av.fz d) v
 | d,av,v,φ,h,hF,hs=>by
  by_cases ho:av.own=true
  ·cases av with
   | ow T n rows =>
    cases d with
    | zero=>cases hs
    | succ d =>
     refine dH.fix (AV.fz d) h.row hF fun i r j av u ψ hr hav Uh x=>?_
     have h1:(rows.all fun r=>r.all (AV.Oo d))=true:=hs
     have h2:=List.all_eq_true.1 (List.all_eq_true.1 h1 r (cO hr)) av (cO hav)
     exact OW.fix hle d x (fun p hp=>hF p (Uh _ hp)) h2
   | _=>cases ho
  ·rw [au6 XR]
   exact (h.p XR).mono hle
theorem Tr.aby (k:Nat) {n:Nat} {rows':List (List AV)} {ob:AO} (hk:look k σ.M=some ob) (hls:∀ G w (F':View),oU G w k ob→G.F.le F'→(∀ p,G.fp k p.block→F' p=w.cell? p)→RP F' (.ls n rows') (G.h k)):Tr C σ (σ.freeze k n rows'):=fun G a w ok=>by
 obtain ⟨hkn,_,hob⟩:=ok.ob k _ hk
 classical
 let F':View:=fun p=>if G.fp k p.block then w.cell? p else G.F p
 have hF:G.F.le F':=fun p u h=>by
  exact akB
 have hFn:∀ p u,F' p=some u→G.F p=some u∨(G.fp k p.block∧w.cell? p=some u):=fun p u h=>by
  exact arv
 have hls:=hls G w F' hob hF (fun p hp=>if_pos hp)
 have hle:G.le { G with F:=F' } σ.nk:=⟨hF,fun _ _=>rfl,fun _ _=>rfl,fun _ _=>rfl⟩
 have YH:R { G with F:=F' } (.ls n rows') (({ G with F:=F' }:Gh).h k):=.pu _ _ hls
 have hl:∀ i ob,look i (σ.freeze k n rows').M=some ob→∃ Kv,i≠k∧look i σ.M=some Kv∧ob=Kv.frz k n rows':=fun i ob h=>by
  rw [show look i (σ.freeze k n rows').M=_ from wz _ i _,nY] at h
  exact arp
 refine ⟨{ G with F:=F' },ok.sz,ok.df,fun i av h=>?_,ok.bel,fun p u h=>?_,fun p u h=>hF p u (ok.f0 p u h),fun p u h=>?_,fun i ob h=>?_,fun i o x h1 h2=>?_,?_,?_⟩
 ·rw [show look i (σ.freeze k n rows').t=_ from wz _ i _] at h
  cases hq:look i σ.t with
  | none=>simp [hq] at h
  | some av0 =>
   simp [hq] at h
   obtain ⟨h1,h2,h3⟩:=ok.tm i av0 hq
   rw [← h]
   exact ⟨h1,asb h2,au5 YH (h3.mono hle h2)⟩
 ·exact aaD
 ·exact aky
 ·obtain ⟨Kv,e,h0,rfl⟩:=hl i ob h
  obtain ⟨g1,g2,g3⟩:=ok.ob i Kv h0
  have g4:=g3.keep (w':=w) (G':={ G with F:=F' }) hle g1 g2 rfl (fun _ _=>rfl)
  refine ⟨g1,?_,?_⟩
  ·cases Kv with
   | box T cells=>exact uI g2 fun _=>Af
   | EF T m rs hi hj y=>exact Af g2
   | oW T m rs hi hj y=>exact Af g2
   | _=>exact g2
  ·cases Kv with
   | box T cells =>
    obtain ⟨b1,cs,Φ,b2,b3,b4,b5,b6⟩:=g4
    refine ⟨b1,cs,Φ,b2,by simpa using b3,b4,b5,fun j av u x y=>?_⟩
    rw [bT] at x
    cases hq:cells[j]? with
    | none=>simp [hq] at x
    | some b=>simp [hq] at x;rw [← x];exact asa YH (b6 j b u hq y)
   | EF T m rs hi hj y =>
    obtain ⟨c1,c2,c3⟩:=g4
    refine ⟨c1,c2,c3.keep (fun _ _=>rfl) fun i r j av ψ u _ _ _ x=>?_⟩
    unfold XH at x ⊢
    exact alM
   | oW T m rs hi hj y =>
    obtain ⟨c1,c2,c3⟩:=g4
    refine ⟨c1,c2,c3.keep (fun _ _=>rfl) fun i r j av ψ u _ _ _ x=>?_⟩
    unfold XQ at x ⊢
    exact alM
   | _=>exact g4
 ·exact ale
 ·intro i o i' o' x h1 h2 h3 h4
  exact akb
 exact arh
theorem Tr.freeze (k:Nat) {T n:Nat} {rows:List (List AV)} (hk:look k σ.M=some (.row T n rows)):Tr C σ (σ.freeze k n rows) :=
 Tr.aby k hk fun G w F' h hle hF=>by
  have:=dH.fix (F':=F') id h.2.2 hF fun i r j av u ψ _ _ _ x=>RP.mono hle x
  exact ng
theorem Tr.abz (k d:Nat) {T n:Nat} {rows rows':List (List AV)} (hk:look k σ.M=some (.jM T n rows)) (hs:(rows.all fun r=>r.all (AV.Oo d))=true) (hr:(rows.map fun r=>r.map (AV.fz d))=rows'):Tr C σ (σ.freeze k n rows') :=
 Tr.aby k hk fun G w F' h hle hF=>by
  rw [← hr]
  refine dH.fix (AV.fz d) h.2.2 hF fun i r j av u ψ hr hav Uh x=>?_
  exact OW.fix hle d x (fun p hp=>hF p (Uh _ hp)) (List.all_eq_true.1 (List.all_eq_true.1 hs r (cO hr)) av (cO hav))
end
def iO (t:List (Nat×AV)):List Nat→List (Nat×AV)
 | []=>[]
 | x::r =>
  match look x t with
  | some av=>(x,av)::iO t r
  | none=>iO t r
def St.only(σ:St)(ts:List Nat):St:={ σ with t:=iO σ.t ts }
theorem sS {t:List (Nat×AV)} {i:Nat} {av:AV}:∀ {ts:List Nat},look i (iO t ts)=some av→look i t=some av
 | [],h=>by cases h
 | x::r,h=>by
  unfold iO at h
  cases hx:look x t with
  | none=>rw [hx]at h;exact sS h
  | some a =>
   rw [hx]at h
   by_cases e:i=x
   ·subst e
    rw [aA]at h
    rw [hx];exact h
   ·rw [aj e]at h;exact sS h
theorem uP {t t':List (Nat×AV)}:∀ {ts:List Nat},(∀ x∈ts,look x t=look x t')→iO t ts=iO t' ts
 | [],_=>rfl
 | x::r,h=>by
  unfold iO
  rw [h x (by simp),uP fun y hy=>h y BK]
section
variable {P:Program} {C:Cx} {σ σ':St} {G G':Gh} {a:Act} {w w':World} {ops:Array Oper} {Q:Exit→St→Prop}
theorem Ok.awn (ok:Ok C σ G a w)(ts:List Nat):Ok C (σ.only ts) G a w :=
 ⟨ok.sz,ok.df,fun i av h=>ok.tm i av (sS h),ok.bel,ok.fw,ok.f0,ok.f1,ok.ob,ok.my,ok.dj,ok.dF⟩
theorem Ok.vk (ok:Ok C σ G a w) (h:∀ t,look t σ'.t=look t σ.t) (hM:σ'.M=σ.M) (hn:σ'.nk=σ.nk):Ok C σ' G a w :=
 ⟨ok.sz,by rw [hn];exact ok.df,fun i av x=>by rw [hn];exact ok.tm i av (by rw [← h];exact x),ok.bel,ok.fw,ok.f0,ok.f1,fun k o x=>by rw [hn];exact ok.ob k o (by rw [← hM];exact x),fun k o x a=>ok.my k o x (by rw [← hM];exact a),fun k o k' o' x a b=>ok.dj k o k' o' x (by rw [← hM];exact a) (by rw [← hM];exact b),fun k o x p u a=>ok.dF k o x p u (by rw [← hM];exact a)⟩
def qQ (ops:Array Oper)(o:Oper)(σ:St):Option Bool :=
 match o.guard with
 | none=>some true
 | some (j,b) =>
  match (ops[j]?).bind (·.dst)with
  | some d =>
   match look d σ.t with
   | some (.sc v)=>some (match vb v with|some c=>c == b|none=>false)
   | _=>none
  | none=>none
theorem qh {o:Oper} {b:Bool} (ok:Ok C σ G a w)(h:qQ ops o σ=some b):Region.wanted o (yielded ops a.tmps)=b:=by
 unfold qQ at h
 unfold Region.wanted
 cases hg:o.guard with
 | none=>rw [hg]at h;cases h;rfl
 | some x =>
  obtain⟨j,c⟩:=x
  rw [hg]at h
  simp only at h ⊢
  cases hj:ops[j]? with
  | none=>simp [hj]at h
  | some oj =>
   cases hd:oj.dst with
   | none=>simp [hj,hd]at h
   | some d =>
    simp only [hj,Ib,hd]at h
    cases hv:look d σ.t with
    | none=>simp [hv]at h
    | some av =>
     cases av with
     | sc v =>
      simp only [hv]at h
      cases h
      rw [CZ ok hj hd hv]
      cases vb v with
      | none=>rfl
      | some c'=>cases c'<;>cases c<;>rfl
     | _=>simp [hv]at h
def Does (P:Program)(C:Cx)(ops:Array Oper)(o:Oper)(σ:St)(av:AV):Prop :=
 (qQ ops o (σ.only (o.looksAt ops))=some true∧WV P C o (σ.only (o.looksAt ops)) av)∨(qQ ops o (σ.only (o.looksAt ops))=some false∧av=.sc undef)
theorem Does.vk {o:Oper} {av:AV} (h:Does P C ops o σ av)(hl:∀ t∈o.looksAt ops,look t σ.t=look t σ'.t)(hM:σ'.M=σ.M)(hn:σ'.nk=σ.nk):Does P C ops o σ' av:=by
 have e:σ'.only (o.looksAt ops)=σ.only (o.looksAt ops):=by
  unfold St.only
  rw [hM,hn,uP fun x hx=>(hl x hx).symm]
 unfold Does
 rw [e];exact h
inductive DL (P:Program)(C:Cx)(ops:Array Oper):List Oper→St→St→Prop
 | nil (σ:St):DL P C ops [] σ σ
 | op (o:Oper)(rest:List Oper)(d:Tmp)(av:AV)(σ σ':St):o.dst=some d→Nat.blt d C.N=true→Does P C ops o σ av→DL P C ops rest (σ.put d av) σ'→DL P C ops (o::rest) σ σ'
def oV (o:Option Tmp)(b:Bool)(av:AV):List (Nat×AV) :=
 match b,o with
 | true,some d=>[(d,av)]
 | _,_=>[]
theorem pJ (t:Nat) (o:Option Tmp) (b:Bool) (av:AV):look t (oV o b av)=if b=true∧o=some t then some av else none:=by
 cases b with
 | false=>simp [oV,look]
 | true =>
  cases o with
  | none=>simp [oV,look]
  | some d =>
   by_cases e:t=d
   ·subst e;rw [if_pos ⟨rfl,rfl⟩];exact aA
   ·rw [if_neg (fun h=>e (by injection h.2 with h;exact h.symm))]
    show look t [(d,av)]=none
    rw [aj e];rfl
def ents (ops:Array Oper) (bI:Nat→AV) (s:Nat→Bool):Nat→List (Nat×AV)
 | 0=>[]
 | m+1=>oV ((ops[m]?).bind (·.dst)) (s m) (bI m)++ents ops bI s m
theorem dB {α:Type} (i:Nat):∀ (l m:List (Nat×α)),look i (l++m)=(look i l).or (look i m)
 | [],m=>rfl
 | x::r,m=>by
  by_cases e:i=x.1
  ·subst e
   rw [zK,aA,aA];rfl
  ·rw [zK,aj e,aj e,dB i r m]
theorem kX {bI:Nat→AV} {s s':Nat→Bool} {t:Nat}:∀ {m:Nat},(∀ i,i<m→(ops[i]?).bind (·.dst)=some t→s i=s' i)→look t (ents ops bI s m)=look t (ents ops bI s' m)
 | 0,_=>rfl
 | m+1,h=>by
  have ih:=kX (bI:=bI) (s:=s) (s':=s') (t:=t) (m:=m) fun i hi hd=>h i au hd
  unfold ents
  rw [dB,dB,ih,pJ,pJ]
  by_cases e:(ops[m]?).bind (·.dst)=some t
  ·rw [h m (by omega) e]
  ·rw [if_neg (fun x=>e x.2),if_neg (fun x=>e x.2)]
theorem ES {bI:Nat→AV} {s:Nat→Bool} {t:Nat}:∀ {m:Nat},(∀ i,i<m→(ops[i]?).bind (·.dst)=some t→s i=false)→look t (ents ops bI s m)=none
 | 0,_=>rfl
 | m+1,h=>by
  have ih:=ES (bI:=bI) (s:=s) (t:=t) (m:=m) fun i hi hd=>h i au hd
  unfold ents
  rw [dB,ih,pJ,if_neg]
  ·rfl
  ·intro x
   rw [h m (by omega) x.2] at x
   cases x.1
theorem Ju {bI:Nat→AV} {s:Nat→Bool} {t j:Nat}:∀ {m:Nat},j<m→(ops[j]?).bind (·.dst)=some t→s j=true→(∀ i,j<i→i<m→(ops[i]?).bind (·.dst)=some t→s i=false)→look t (ents ops bI s m)=some (bI j)
 | 0,h,_,_,_=>by omega
 | m+1,hj,hd,hs,h=>by
  unfold ents
  rw [dB,pJ]
  by_cases e:j=m
  ·subst e
   rw [if_pos ⟨hs,hd⟩];rfl
  ·have ih:=Ju (bI:=bI) (s:=s) (t:=t) (j:=j) (m:=m) au hd hs fun i h1 h2=>h i h1 au
   rw [ih,if_neg]
   ·rfl
   ·intro x
    rw [h m (by omega) (by omega) x.2] at x
    cases x.1
theorem wo {md:Region.Mode}:∀ (m k:Nat) (listed:Array Bool),ops.size=k+m→listed.size=ops.size→(∀ i,i<ops.size→listed.getD i true=decide (i<k))→Region.lexFrom md ops m k listed=true →
  (∀ j oj,k≤j→ops[j]?=some oj→∀ e∈oj.after,Region.binds md e=true→e.on<j) ∧
  (∀ i j oi oj,k≤i→i<j→ops[i]?=some oi→ops[j]?=some oj→(∀ e∈oj.after,Region.binds md e=true→e.on≠i)→oi.apart ops oj=true)
 | 0,k,listed,hk,_,_,_=>⟨fun j oj h h'=>by have:=(Array.getElem?_eq_some_iff.1 h').1;omega,fun i j oi oj h h1 h2=>by have:=(Array.getElem?_eq_some_iff.1 h2).1;omega⟩
 | m+1,k,listed,hk,hsz,hl,h=>by
  simp only [Region.lexFrom,aW] at h
  obtain ⟨⟨hr,hf⟩,hrest⟩:=h
  have ih:=wo m (k+1) (listed.setIfInBounds k true) (by omega) XJ (fun i hi=>by
   by_cases e:k=i
   ·subst e;simp [hsz,hi]
   ·rw [show (listed.setIfInBounds k true).getD i true=listed.getD i true from by simp [dM,uT e],hl i hi]
    have:(i<k)↔(i<k+1):=by omega
    simp [this]) hrest
  have hmem:k∈Region.ready md ops listed:=by simpa using hr
  obtain ⟨_,o,ho,hall⟩:=mem_ready.1 hmem
  refine ⟨fun j oj hj hoj e he hb=>?_,fun i j oi oj hi hij hoi hoj hno=>?_⟩
  ·by_cases e2:j=k
   ·subst e2
    rw [ho] at hoj
    cases hoj
    have h1:=hall e he hb
    by_cases hlt:e.on<ops.size
    ·have h2:=hl e.on hlt
     have h3:listed.getD e.on false=listed.getD e.on true:=by simp [dM,hsz,hlt]
     rw [h3,h2] at h1
     exact iY h1
    ·have:listed.getD e.on false=false:=by simp [dM,hsz,hlt]
     rw [this] at h1;cases h1
   ·exact ih.1 j oj au hoj e he hb
  ·by_cases e2:i=k
   ·subst e2
    have hjlt:=(Array.getElem?_eq_some_iff.1 hoj).1
    exact Region.free_spec hoi hf j oj hoj (by omega) (by rw [hl j hjlt];simp;omega) hno
   ·exact ih.2 i j oi oj au hij hoi hoj hno
theorem DL.data {l:List Oper} {σ σ':St} (h:DL P C ops l σ σ'):∃ bI:Nat→AV,σ'={ σ with t:=ents l.toArray bI (fun _=>true) l.length++σ.t } ∧
  ∀ j oj,l[j]?=some oj→∃ d,oj.dst=some d∧d<C.N∧Does P C ops oj { σ with t:=ents l.toArray bI (fun _=>true) j++σ.t } (bI j):=by
 induction h with
 | nil σ=>exact ⟨fun _=>.sc undef,rfl,fun j oj h=>by simp at h⟩
 | op o rest d av σ σ' hd hN hdo _ ih =>
  obtain ⟨bI,e1,e2⟩:=ih
  have key:∀ m,m≤rest.length→ents (o::rest).toArray (fun j=>if j=0 then av else bI (j-1)) (fun _=>true) (m+1)=ents rest.toArray bI (fun _=>true) m++[(d,av)]:=by
   intro m
   induction m with
   | zero=>intro _;simp [ents,oV,hd]
   | succ m ihm =>
    intro hm
    exact aaL
  refine ⟨fun j=>if j=0 then av else bI (j-1),?_,fun j oj hj=>?_⟩
  ·rw [e1,iw,key _ (bJ _)]
   simp [St.put]
  ·cases j with
   | zero=>cases hj;exact ⟨d,hd,dP hN,by simpa [ents] using hdo⟩
   | succ j =>
    have hj':rest[j]?=some oj:=by simpa using hj
    obtain ⟨d',q1,q2,q3⟩:=e2 j oj hj'
    refine ⟨d',q1,q2,?_⟩
    rw [key j ajC]
    simpa [St.put] using q3
theorem oJ(n j:Nat):(Array.replicate n false).getD j false=false:=by
 unfold Array.getD
 split<;>simp
theorem EP {p q:Nat→Bool} (h:∀ i,q i=true→p i=true):∀ {n j:Nat},j<n→p j=true→q j=false→(List.range n).countP q<(List.range n).countP p
 | 0,_,hj,_,_=>by omega
 | n+1,j,hj,hp,hq=>by
  rw [List.range_succ,List.countP_append,List.countP_append]
  have hle:(List.range n).countP q≤(List.range n).countP p:=List.countP_mono_left fun x _ hx=>h x hx
  by_cases e:j=n
  ·subst e
   have a1:[j].countP q=0:=by simp [hq]
   have a2:[j].countP p=1:=by simp [hp]
   omega
  ·have:=EP h (n:=n) (j:=j) au hp hq
   have h1:[n].countP q≤[n].countP p:=List.countP_mono_left fun x _ hx=>h x hx
   omega
def WA (P:Program)(C:Cx)(ops:Array Oper)(σ:St)(Q:Exit→St→Prop):Prop:=∀ G a w,Ok C σ G a w→wpAny P .any ops (Post C Q) ops.size (Array.replicate ops.size false) a { w with drawn:=w.drawn+1 }
theorem W.rD {id:Nat} (hm:P.follows .mixedOrders=true)(h:WA P C ops σ Q):W P C (.region id ops true) σ Q:=fun G a w ok=>wp_region_any hm (h G a w ok)
theorem WA.draw {l:List Oper} (hB:Region.lexB .any l.toArray=true) (h:DL P C l.toArray l σ σ') (k:Q .normal σ'):WA P C l.toArray σ Q:=by
 intro G a w ok
 obtain ⟨bI,e1,e2⟩:=h.data
 simp only [Region.lexB,aW] at hB
 obtain ⟨FA,FB⟩:=wo (ops:=l.toArray) l.toArray.size 0 (Array.replicate l.toArray.size false) (by simp) (by simp) (fun i hi=>by simp [dM,hi] at hi ⊢;simp [hi]) hB.2
 have sz:l.toArray.size=l.length:=by simp
 let KS:Array Bool→St:=fun listed=>{ σ with t:=ents l.toArray bI (fun i=>listed.getD i false) l.length++σ.t }
 have key:∀ (fuel:Nat) (listed:Array Bool) (G:Gh) (a:Act) (w:World),listed.size=l.length→(∀ j oj,l[j]?=some oj→listed.getD j false=true→∀ e∈oj.after,Region.binds .any e=true→listed.getD e.on false=true) →
   (List.range l.length).countP (fun i=>!listed.getD i false)≤fuel→Ok C (KS listed) G a w→wpAny P .any l.toArray (Post C Q) fuel listed a w:=by
  intro fuel
  have done:∀ (listed:Array Bool) (G:Gh) (a:Act) (w:World),listed.size=l.length→Region.ready .any l.toArray listed=[]→Ok C (KS listed) G a w→Post C Q .normal a w:=by
   intro listed G a w hsz hr ok
   have hall:∀ n i,i < n→i < l.length→listed.getD i false=true:=by
    intro n
    induction n with
    | zero=>intro i h;omega
    | succ n ih =>
     intro i hi hlt
     by_cases e:i < n
     ·exact ih i e hlt
     ·have hin:i=n:=by omega
      subst hin
      cases BX:listed.getD i false with
      | true=>rfl
      | false =>
       have hoi:l.toArray[i]?=some l[i]:=by simp [hlt]
       have:i∈Region.ready .any l.toArray listed:=mem_ready.2 ⟨by
        have:listed.getD i true=listed.getD i false:=by simp [dM,hsz,hlt]
        rw [this];exact BX,l[i],hoi,fun e he hb=>ih e.on (FA i l[i] (gU _) hoi e he hb) (by have:=FA i l[i] (gU _) hoi e he hb;omega)⟩
       rw [hr] at this;cases this
   refine ⟨σ',G,k,ok.vk (fun t=>?_) (by rw [e1]) (by rw [e1])⟩
   rw [e1]
   show look t (_++_)=look t (_++_)
   rw [dB,dB,kX (s':=fun i=>listed.getD i false) fun i hi _=>(hall (i+1) i (by omega) hi).symm]
  induction fuel with
  | zero =>
   intro listed G a w hsz hcl hf ok
   exact aul
  | succ fuel ih =>
   intro listed G a w hsz hcl hf ok
   refine ⟨fun hr=>done listed G a w hsz hr ok,fun j hj=>?_⟩
   obtain ⟨h1,oj,h2,h4⟩:=mem_ready.1 hj
   have hlt:j < l.length:=by have:=(Array.getElem?_eq_some_iff.1 h2).1;omega
   have h3:listed.getD j false=false:=by
    exact aaR
   have hlj:l[j]?=some oj:=by simpa using h2
   obtain ⟨d,hd,hdN,U3⟩:=e2 j oj hlj
   have hlook:∀ t∈oj.looksAt l.toArray,∀ i,i < l.length→(l.toArray[i]?).bind (·.dst)=some t→listed.getD i false=decide (i < j):=by
    intro t ht i hi hdi
    have hoi:l.toArray[i]?=some l[i]:=by simp [hi]
    rw [hoi] at hdi
    have hdi:l[i].dst=some t:=hdi
    rcases Tj i j with hij|hij|hij
    ·rw [dG hij]
     by_cases hno:∃ e,e∈oj.after∧Region.binds .any e=true∧e.on=i
     ·obtain ⟨e,he,hb,rfl⟩:=hno
      exact h4 e he hb
     ·exact absurd ht ((Oper.apart_spec (FB i j _ _ (gU _) hij hoi h2 fun e he hb h=>hno ⟨e,he,hb,h⟩)).1 t hdi)
    ·subst hij;rw [h3];simp
    ·rw [cZ (by omega)]
     cases BX:listed.getD i false with
     | false=>rfl
     | true =>
      by_cases hno:∃ e,e∈(l[i]).after∧Region.binds .any e=true∧e.on=j
      ·exact aj6
      ·exact absurd ht ((Oper.apart_spec (FB j i _ _ (gU _) hij h2 hoi fun e he hb h=>hno ⟨e,he,hb,h⟩)).2.2 t hdi)
   have abD:∀ t,look t (ents l.toArray bI (fun _=>true) j)=look t (ents l.toArray bI (fun i=>decide (i < j)) l.length):=by
    intro t
    exact akk
   have hdo:Does P C l.toArray oj (KS listed) (bI j):=U3.vk (fun t ht=>by
    show look t (_++_)=look t (_++_)
    rw [dB,dB,abD t,kX fun i hi hdi=>(hlook t ht i hi hdi).symm]) rfl rfl
   have next:∀ (v:Value) (G':Gh) (w':World),Ok C (KS listed) G' a w'→R G' (bI j) v→Bd σ.nk (bI j)→wpAny P .any l.toArray (Post C Q) fuel (listed.setIfInBounds j true) (a.put oj.dst v) w':=by
    intro v G' w' ok' hr hb
    have ok2:=ok'.set (d:=some d) hr hb fun x hx=>by cases hx;exact hdN
    rw [hd]
    refine ih (listed.setIfInBounds j true) G' _ w' XJ (fun i oi hi BX e he hb=>?_) ?_ (ok2.vk (fun t=>?_) rfl rfl)
    ·have mono:∀ q,listed.getD q false=true→(listed.setIfInBounds j true).getD q false=true:=fun q hq=>by
      by_cases e:j=q
      ·subst e;rw [hq] at h3;cases h3
      ·simpa [dM,uT e] using hq
     by_cases e2:j=i
     ·subst e2
      rw [hlj] at hi;cases hi
      exact mono _ (h4 e he hb)
     ·refine mono _ (hcl i oi hi ?_ e he hb)
      simpa [dM,uT e2] using BX
    ·have hlt2:(List.range l.length).countP (fun i=>!(listed.setIfInBounds j true).getD i false) < (List.range l.length).countP (fun i=>!listed.getD i false):=by
      exact EP (fun i hi=>by
       by_cases e:j=i
       ·subst e;simp [dM,hsz,hlt] at hi
       ·simpa [dM,uT e] using hi) hlt (by simp [h3]) ajD
     omega
    ·show look t (_++_)=look t ((d,bI j)::(_++_))
     by_cases et:t=d
     ·subst et
      rw [aA,dB,Ju (j:=j) hlt (by rw [h2];exact hd) ajD fun i hij hi hdi=>?_]
      ·rfl
      ·have hoi:l.toArray[i]?=some l[i]:=by simp [hi]
       rw [hoi] at hdi
       have hdi:l[i].dst=some t:=hdi
       have hne:j≠i:=by omega
       cases BX:listed.getD i false with
       | false=>simpa [dM,uT hne] using BX
       | true =>
        by_cases hno:∃ e,e∈(l[i]).after∧Region.binds .any e=true∧e.on=j
        ·exact aj6
        ·exact absurd hdi ((Oper.apart_spec (FB j i _ _ (gU _) hij h2 hoi fun e he hb h=>hno ⟨e,he,hb,h⟩)).2.1 t hd)
     ·rw [aj et,dB,dB]
      congr 1
      refine kX fun i hi hdi=>?_
      by_cases e2:j=i
      ·subst e2
       rw [h2] at hdi
       have:oj.dst=some t:=hdi
       rw [hd] at this
       exact absurd (by injection this with h;exact h.symm) et
      ·simp [dM,uT e2]
   unfold wpOp
   simp only [h2]
   have okO:=ok.awn (oj.looksAt l.toArray)
   rcases hdo with ⟨hg,hv⟩|⟨hg,hv⟩
   ·rw [if_pos (qh okO hg)]
    exact .inl (hv G a w okO _ _ fun v G' w' hk hr hb=>next v G' w' (hk _ _ ok) hr hb)
   ·rw [if_neg (by rw [qh okO hg];simp)]
    exact next undef G w ok (by rw [hv];exact .pu _ _ (.sc _)) (by rw [hv];exact .sc _)
 refine key _ (Array.replicate l.toArray.size false) G a _ (by simp) (fun j oj _ h=>?_) ?_ (ok.drew.vk (fun t=>?_) rfl rfl)
 ·rw [oJ] at h;cases h
 ·rw [sz]
  exact jV List.countP_le_length (by simp)
 ·show look t (_++_)=_
  rw [dB,ES fun i hi _=>?_]
  ·rfl
  ·exact oJ _ _
theorem W.draw {id:Nat} {l:List Oper} (hm:P.follows .mixedOrders=true)(hB:Region.lexB .any l.toArray=true)(h:DL P C l.toArray l σ σ')(k:Q .normal σ'):W P C (.region id l.toArray true) σ Q:=W.rD hm (WA.draw hB h k)
end
def needs(ops:Array Oper)(i:Nat):Nat→Nat→Bool
 | 0,_=>false
 | f+1,j =>
  match ops[j]? with
  | some o=>o.after.any fun e=>Region.binds .any e && (Nat.beq e.on i|| needs ops i f e.on)
  | none=>false
def nR(ops:Array Oper)(mem:List Bool)(j:Nat):Bool:=(List.range j).all fun i=>!(mem.getD i false)|| needs ops i ops.size j
def chainB(ops:Array Oper)(mem:List Bool):Bool:=(List.range ops.size).all fun j=>!(mem.getD j false)|| nR ops mem j
section
variable {P:Program} {C:Cx} {σ σ':St} {G G':Gh} {a:Act} {w w':World} {ops:Array Oper} {Q:Exit→St→Prop}
theorem xG {listed:Array Bool} (hcl:∀ j oj,ops[j]?=some oj→listed.getD j false=true→∀ e∈oj.after,Region.binds .any e=true→listed.getD e.on false=true) {i:Nat}:∀ (f j:Nat),needs ops i f j=true→listed.getD j false=true→listed.getD i false=true
 | 0,j,h,_=>by cases h
 | f+1,j,h,hl=>by
  unfold needs at h
  cases ho:ops[j]? with
  | none=>simp [ho]at h
  | some o =>
   simp only [ho]at h
   obtain⟨e,he,h2⟩:=Array.any_eq_true'.1 h
   simp only [aW,qI]at h2
   have:=hcl j o ho hl e he h2.1
   exact akl
theorem uM {listed:Array Bool} (hcl:∀ j oj,ops[j]?=some oj→listed.getD j false=true→∀ e∈oj.after,Region.binds .any e=true→listed.getD e.on false=true) {i j:Nat} {oj:Oper} (hj:ops[j]?=some oj)
  (hr:∀ e∈oj.after,Region.binds .any e=true→listed.getD e.on false=true):∀ (f:Nat),needs ops i f j=true→listed.getD i false=true
 | 0,h=>by cases h
 | f+1,h=>by
  unfold needs at h
  simp only [hj]at h
  obtain⟨e,he,h2⟩:=Array.any_eq_true'.1 h
  simp only [aW,qI]at h2
  have:=hr e he h2.1
  exact akl
theorem Ok.few (ok:Ok C σ G a w) {t:List (Nat×AV)} {M:List (Nat×AO)} {nk:Nat} (ht:∀ i av,look i t=some av→look i σ.t=some av∧av.inn nk=true) (hM:∀ k o,look k M=some o→look k σ.M=some o∧o.inn nk=true∧k<nk) (hnp:C.np≤nk):Ok C ⟨t,M,nk⟩ G a w :=
 ⟨ok.sz,⟨ok.df.1,hnp,ok.df.2.2⟩,fun i av x=>⟨(ok.tm i av (ht i av x).1).1,E8 (ht i av x).2,(ok.tm i av (ht i av x).1).2.2⟩,ok.bel,ok.fw,ok.f0,ok.f1,
  fun k o x=>⟨(hM k o x).2.2,by
   cases o with
   | box T cells=>exact fun i av y=>yX (List.all_eq_true.1 (hM k _ x).2.1 av (cO y))
   | EF T n rows hi hj y=>exact yX (hM k _ x).2.1
   | oW T n rows hi hj y=>exact yX (hM k _ x).2.1
   | row T n rows=>trivial
   | jM T n rows=>trivial
   | xq T e l=>trivial
   | opq q=>trivial,(ok.ob k o (hM k o x).1).2.2⟩,
  fun k o x p=>ok.my k o x (hM k o p).1,fun k o k' o' x p q=>ok.dj k o k' o' x (hM k o p).1 (hM k' o' q).1,fun k o x p u q=>ok.dF k o x p u (hM k o q).1⟩
def LX (nk:Nat):List (Nat×AV)→Bool
 | []=>true
 | x::r=>x.2.inn nk && LX nk r
def JO (nk:Nat):List (Nat×AO)→Bool
 | []=>true
 | x::r=>x.2.inn nk && Nat.blt x.1 nk && JO nk r
def bP:List (Nat×AO)→List (Nat×AO)→Prop
 | [],_=>True
 | x::r,M=>look x.1 M=some x.2∧bP r M
theorem LY {nk:Nat}:∀ {t:List (Nat×AV)},LX nk t=true→∀ i av,look i t=some av→av.inn nk=true
 | [],_,i,av,h=>by cases h
 | x::r,ht,i,av,h=>by
  simp only [LX,aW]at ht
  by_cases e:i=x.1
  ·subst e;rw [aA]at h;cases h;exact ht.1
  ·rw [aj e]at h;exact LY ht.2 i av h
theorem y9 {nk:Nat}:∀ {t:List (Nat×AO)},JO nk t=true→∀ i o,look i t=some o→o.inn nk=true∧i<nk
 | [],_,i,o,h=>by cases h
 | x::r,ht,i,o,h=>by
  simp only [JO,aW]at ht
  by_cases e:i=x.1
  ·subst e;rw [aA]at h;cases h;exact⟨ht.1.1,dP ht.1.2⟩
  ·rw [aj e]at h;exact y9 ht.2 i o h
theorem zf {M:List (Nat×AO)}:∀ {t:List (Nat×AO)},bP t M→∀ i o,look i t=some o→look i M=some o
 | [],_,i,o,h=>by cases h
 | x::r,ht,i,o,h=>by
  by_cases e:i=x.1
  ·subst e;rw [aA]at h;cases h;exact ht.1
  ·rw [aj e]at h;exact zf ht.2 i o h
def Ul (P:Program) (C:Cx) (ops:Array Oper) (o:Oper) (t:List (Nat×AV)) (Mc:List (Nat×AO)) (nk:Nat) (av:AV):Prop :=
 JO nk Mc=true∧LX nk (iO t (o.looksAt ops))=true∧((qQ ops o ⟨iO t (o.looksAt ops),Mc,nk⟩=some true∧WV P C o ⟨iO t (o.looksAt ops),Mc,nk⟩ av)∨(qQ ops o ⟨iO t (o.looksAt ops),Mc,nk⟩=some false∧av=.sc undef))
def DoesM (P:Program) (C:Cx) (ops:Array Oper) (o:Oper) (σ:St) (d:Tmp) (av:AV) (M':List (Nat×AO)) (dh:Nat):Prop :=
 o.guard=none∧∀ t,(∀ q∈o.looksAt ops,look q t=look q σ.t)→WO P C o ⟨t,σ.M,σ.nk⟩ ⟨(d,av)::t,M',dh⟩
inductive DM (P:Program) (C:Cx) (ops:Array Oper) (mem:List Bool) (Mc:List (Nat×AO)) (fJ:Nat):Nat→List Oper→St→St→Prop
 | nil (k:Nat) (σ:St):DM P C ops mem Mc fJ k [] σ σ
 | val (k:Nat) (o:Oper) (rest:List Oper) (d:Tmp) (av:AV) (nk:Nat) (σ σ':St):mem.getD k false=false→o.dst=some d→Nat.blt d C.N=true→(nk=fJ∨(nk=σ.nk∧nR ops mem k=true))→Ul P C ops o σ.t Mc nk av →
   DM P C ops mem Mc fJ (k+1) rest (σ.put d av) σ'→DM P C ops mem Mc fJ k (o::rest) σ σ'
 | mem (k:Nat) (o:Oper) (rest:List Oper) (d:Tmp) (av:AV) (M':List (Nat×AO)) (dh:Nat) (σ σ':St):mem.getD k false=true→o.dst=some d→Nat.ble σ.nk dh=true→bP Mc M'→DoesM P C ops o σ d av M' dh →
   DM P C ops mem Mc fJ (k+1) rest ⟨(d,av)::σ.t,M',dh⟩ σ'→DM P C ops mem Mc fJ k (o::rest) σ σ'
def cur(mem s:Nat→Bool):Nat→Nat
 | 0=>0
 | m+1=>if mem m=true∧s m=true then m+1 else cur mem s m
theorem OD {mem s s':Nat→Bool}:∀ {m:Nat},(∀ i,i<m→mem i=true→s i=s' i)→cur mem s m=cur mem s' m
 | 0,_=>rfl
 | m+1,h=>by
  unfold cur
  rw [OD (m:=m) fun i hi=>h i (by omega)]
  by_cases e:mem m=true
  ·rw [h m (by omega) e]
  ·rw [if_neg (fun x=>e x.1),if_neg (fun x=>e x.1)]
theorem QX {mem s:Nat→Bool}:∀ m:Nat,cur mem s m≤m
 | 0=>bJ _
 | m+1=>by
  unfold cur
  split
  ·exact bJ _
  ·exact Nat.le_succ_of_le (QX m)
theorem BO {α:Type} {mem s:Nat→Bool} {f:Nat→α} {n j:Nat} (hc:∀ i,i<n→mem i=false→f (i+1)=f i) (hs:∀ i,i<n→mem i=true→s i=decide (i<j)):∀ m,m≤n→f (cur mem s m)=f (min m j)
 | 0,_=>by simp [cur]
 | m+1,h=>by
  have ih:=BO hc hs m au
  unfold cur
  by_cases e:mem m=true
  ·have:=hs m au e
   by_cases hm:m<j
   ·rw [if_pos ⟨e,by rw [this];simpa using hm⟩,show min (m+1) j=m+1 by omega]
   ·rw [if_neg (by rw [this];simp;intro _;omega),ih,show min (m+1) j=min m j by omega]
  ·rw [if_neg (fun x=>e x.1),ih]
   by_cases hm:m<j
   ·rw [show min (m+1) j=m+1 by omega,show min m j=m by omega,hc m (by omega) Qx]
   ·rw [show min (m+1) j=min m j by omega]
theorem Yj {mem s:Nat→Bool} {f:Nat→Nat} {n j:Nat} (hc:∀ i,i<n→mem i=false→f (i+1)=f i) (hmono:∀ i,i<n→f i≤f (i+1)) (hs:∀ i,i<n→i<j→mem i=true→s i=true):∀ m,m≤n→f (min m j)≤f (cur mem s m)
 | 0,_=>by simp [cur]
 | m+1,h=>by
  have ih:=Yj hc hmono hs m au
  unfold cur
  by_cases e:mem m=true∧s m=true
  ·rw [if_pos e]
   by_cases hm:m<j
   ·rw [show min (m+1) j=m+1 by omega]
    exact bJ _
   ·rw [show min (m+1) j=j by omega]
    have:∀ b a,a≤b→b≤n→f a≤f b:=by
     intro b
     induction b with
     | zero=>intro a h _;rw [Nat.le_zero.1 h];exact bJ _
     | succ b ihb =>
      intro a hab hbn
      by_cases e2:a=b+1
      ·rw [e2];exact bJ _
      ·exact jV (ihb a au au) (hmono b au)
    exact this (m+1) j au h
  ·rw [if_neg e]
   by_cases hm:m<j
   ·have hmf:mem m=false:=by
     cases hq:mem m with
     | false=>rfl
     | true=>exact absurd ⟨hq,hs m au hm hq⟩ e
    rw [show min (m+1) j=m+1 by omega,hc m (by omega) hmf]
    rw [show min m j=m by omega] at ih
    exact ih
   ·rw [show min (m+1) j=min m j by omega];exact ih
end
def apZ (ops:Array Oper)(k0:Nat):Bool:=Nat.ble k0 ops.size &&
 ((List.range ops.size).all fun j=>Nat.blt j k0|| (List.range j).all fun i=>needs ops i ops.size j) &&
 ((List.range k0).all fun j=>match ops[j]? with
  | some o=>match o.guard with
   | some (g,_)=>Nat.blt g k0
   | none=>true
  | none=>true)
section
variable {P:Program} {ops:Array Oper} {Q Q1:Exit→Act→World→Prop}
theorem Oper.ao0 {o:Oper} {a:Act} {w:World} {K K':Act→World→Prop} (hK:∀ a w,K a w→K' a w)(hQ:∀ e a w,e≠.normal→Q1 e a w→Q e a w)(h:o.wp P a w K Q1):o.wp P a w K' Q:=by
 unfold Oper.wp at *
 generalize (execOp a.eval o).run P w=r at *
 have lets:LetsOut Q1→LetsOut Q:=fun⟨a,w,q⟩=>⟨a,w,hQ _ _ _ (by simp) q⟩
 unfold Oper.upon at *
 split at h
 ·exact hK _ _ h
 ·exact hK _ _ h
 ·exact hK _ _ h
 ·refine Calls.mono h fun e w' he=>?_
  cases e with
  | returned v=>exact hK _ _ he
  | panicked c=>exact hQ _ _ _ (by simp) he
  | outgrown=>exact lets he
 ·exact Rows.mono h fun v w' hv=>hK _ _ hv
 ·exact hQ _ _ _ (by simp) h
 ·exact h.elim
theorem Xq {l s:List Oper} {t:Array Value} {g:Nat} (h:g<l.length):yielded (l++s).toArray t g=yielded l.toArray t g:=by
 unfold yielded
 have:(l++s).toArray[g]?=l.toArray[g]?:=by simp [qJ h]
 rw [this]
theorem aam (FA:∀ j oj,ops[j]?=some oj→∀ e∈oj.after,Region.binds .any e=true→e.on<j) {k0:Nat} (hT:∀ j,k0≤j→j<ops.size→∀ i,i<j→needs ops i ops.size j=true) :
  ∀ (f m fuel:Nat) (listed:Array Bool) (a:Act) (w:World),m+f=ops.size→k0≤m→listed.size=ops.size→(∀ i,i<ops.size→listed.getD i false=decide (i<m))→f≤fuel→wpList P ops Q (ops.toList.drop m) a w→wpAny P .any ops Q fuel listed a w:=by
 intro f
 induction f with
 | zero =>
  intro m fuel listed a w hm hk hsz hl hf h
  have hr:Region.ready .any ops listed=[]:=by
   apply List.eq_nil_iff_forall_not_mem.2
   intro j hj
   obtain ⟨h1,oj,h2,_⟩:=mem_ready.1 hj
   have hlt:=(Array.getElem?_eq_some_iff.1 h2).1
   have h3:=hl j hlt
   rw [dG (by omega)] at h3
   have:listed.getD j true=listed.getD j false:=by simp [dM,hsz,hlt]
   rw [this,h3] at h1;cases h1
  have hd:ops.toList.drop m=[]:=wU (by simp;omega)
  rw [hd] at h
  cases fuel with
  | zero=>exact ⟨hr,h⟩
  | succ fuel=>exact ⟨fun _=>h,fun i hi=>by rw [hr] at hi;cases hi⟩
 | succ f ih =>
  intro m fuel listed a w hm hk hsz hl hf h
  obtain ⟨fuel,rfl⟩:∃ q,fuel=q+1:=⟨fuel-1,by omega⟩
  have hlt:m<ops.size:=by omega
  have hom:ops[m]?=some ops[m]:=uh hlt
  have hrm:m∈Region.ready .any ops listed:=mem_ready.2 ⟨by
   have:listed.getD m true=listed.getD m false:=by simp [dM,hsz,hlt]
   rw [this,hl m hlt];simp,_,hom,fun e he hb=>by
   have:=FA m _ hom e he hb
   rw [hl _ (by omega)];simpa using this⟩
  have hd:ops.toList.drop m=ops[m]::ops.toList.drop (m+1):=by
   rw [zL (by simpa using hlt)];simp
  rw [hd] at h
  refine ⟨fun hr=>(by rw [hr] at hrm;cases hrm),fun i hi=>?_⟩
  have him:m=i:=by
   obtain ⟨h1,oi,h2,h3⟩:=mem_ready.1 hi
   have hi2:=(Array.getElem?_eq_some_iff.1 h2).1
   have e1:listed.getD i true=listed.getD i false:=by simp [dM,hsz,hi2]
   rw [e1,hl i hi2] at h1
   have hge:m≤i:=by simpa using h1
   by_cases e:m=i
   ·exact e
   ·have:=uM (listed:=listed) (fun j oj ho hj e he hb=>by
      have h5:=FA j oj ho e he hb
      have hjs:=(Array.getElem?_eq_some_iff.1 ho).1
      rw [hl j hjs] at hj
      rw [hl _ (by omega)]
      have h6:=iY hj
      exact dG au) h2 h3 _ (hT i au hi2 m au)
    rw [hl m hlt] at this
    simp at this
  subst him
  have step:∀ a w,wpList P ops Q (ops.toList.drop (m+1)) a w→wpAny P .any ops Q fuel (listed.setIfInBounds m true) a w:=fun a w hw =>
   ih (m+1) fuel _ a w (by omega) (by omega) XJ (fun q hq=>by
    by_cases e:m=q
    ·subst e
     simp [dM,hsz,hlt]
    ·have h7:(listed.setIfInBounds m true).getD q false=listed.getD q false:=by simp [dM,uT e]
     rw [h7,hl q hq]
     have:(q<m)↔(q<m+1):=by omega
     simp [this]) (by omega) hw
  unfold wpOp
  simp only [hom]
  simp only [wpList] at h
  by_cases hw:Region.wanted ops[m] (yielded ops a.tmps)=true
  ·rw [if_pos hw] at h ⊢
   exact h.imp (Oper.wp_mono step) id
  ·rw [if_neg hw] at h ⊢
   exact step _ _ h
theorem afE {l s:List Oper} (FA:∀ j oj,(l++s).toArray[j]?=some oj→∀ e∈oj.after,Region.binds .any e=true→e.on<j) (hT:∀ j,l.length≤j→j<(l++s).toArray.size→∀ i,i<j→needs (l++s).toArray i (l++s).toArray.size j=true)
  (hg:∀ (j:Nat) o g b,l[j]?=some o→o.guard=some (g,b)→g<l.length) (hN:∀ a w,Q1 .normal a w→wpList P (l++s).toArray Q s a w) (hQ:∀ e a w,e≠.normal→Q1 e a w→Q e a w) :
  ∀ (fuel:Nat) (la lb:Array Bool) (a:Act) (w:World),la.size=l.length→lb.size=(l++s).length→(∀ i,i<l.length→lb.getD i false=la.getD i false)→(∀ i,l.length≤i→i<(l++s).length→lb.getD i false=false) →
   (∀ j oj,l[j]?=some oj→la.getD j false=true→∀ e∈oj.after,Region.binds .any e=true→la.getD e.on false=true) →
   wpAny P .any l.toArray Q1 fuel la a w→wpAny P .any (l++s).toArray Q (fuel+s.length) lb a w:=by
 have opl:∀ {j:Nat},j<l.length→(l++s).toArray[j]?=l[j]?:=fun h=>by simp [qJ h]
 have FAl:∀ j oj,l[j]?=some oj→∀ e∈oj.after,Region.binds .any e=true→e.on<j:=fun j oj ho=>FA j oj ((opl (List.getElem?_eq_some_iff.1 ho).1).trans ho)
 have fin:∀ (fuel:Nat) (la lb:Array Bool) (a:Act) (w:World),la.size=l.length→lb.size=(l++s).length→(∀ i,i<l.length→lb.getD i false=la.getD i false)→(∀ i,l.length≤i→i<(l++s).length→lb.getD i false=false) →
   Region.ready .any l.toArray la=[]→Q1 .normal a w→wpAny P .any (l++s).toArray Q (fuel+s.length) lb a w:=by
  intro fuel la lb a w h1 h2 h3 h4 hr hq
  have hall:∀ n i,i<n→i<l.length→la.getD i false=true:=by
   intro n
   induction n with
   | zero=>intro i h;omega
   | succ n ih =>
    intro i hi hlt
    by_cases e:i<n
    ·exact ih i e hlt
    ·cases BX:la.getD i false with
     | true=>rfl
     | false =>
      have hoi:l.toArray[i]?=some l[i]:=by simp [hlt]
      have:i∈Region.ready .any l.toArray la:=mem_ready.2 ⟨by
       have:la.getD i true=la.getD i false:=by simp [dM,h1,hlt]
       rw [this];exact BX,l[i],hoi,fun e he hb=>by
        have:=FAl i l[i] (by simp [hlt]) e he hb
        exact ih e.on au au⟩
      rw [hr] at this;cases this
  refine aam FA hT s.length l.length _ lb a w (by simp) (bJ _) (by simpa using h2) (fun i hi=>?_) (by omega) ?_
  ·by_cases e:i<l.length
   ·rw [h3 i e,hall (i+1) i (by omega) e,dG e]
   ·rw [h4 i (by omega) Qu,cZ e]
  ·have:(l++s).toArray.toList.drop l.length=s:=by simp
   rw [this]
   exact hN a w hq
 intro fuel
 induction fuel with
 | zero =>
  intro la lb a w h1 h2 h3 h4 _ h
  exact fin 0 la lb a w h1 h2 h3 h4 h.1 h.2
 | succ fuel ih =>
  intro la lb a w h1 h2 h3 h4 hcl h
  obtain ⟨hn,hs⟩:=h
  by_cases hr:Region.ready .any l.toArray la=[]
  ·exact fin (fuel+1) la lb a w h1 h2 h3 h4 hr (hn hr)
  ·obtain ⟨j0,hj0⟩:=List.exists_mem_of_ne_nil _ hr
   obtain ⟨u1,o0,u2,u3⟩:=mem_ready.1 hj0
   have anq:j0<l.length:=by have:=(Array.getElem?_eq_some_iff.1 u2).1;simpa using this
   have ayB:j0<(l++s).length:=by simp;omega
   have u1':la.getD j0 false=false:=by
    have:la.getD j0 true=la.getD j0 false:=by simp [dM,h1,anq]
    rw [← this];exact u1
   have ayy:∀ j oj,(l++s).toArray[j]?=some oj→lb.getD j false=true→∀ e∈oj.after,Region.binds .any e=true→lb.getD e.on false=true:=by
    intro j oj ho hj e he hb
    have hjn:j<(l++s).length:=by have:=(Array.getElem?_eq_some_iff.1 ho).1;simpa using this
    by_cases e2:j<l.length
    ·have ho':l[j]?=some oj:=(opl e2).symm.trans ho
     have:=FAl j oj ho' e he hb
     rw [h3 _ (by omega)]
     rw [h3 _ e2] at hj
     exact hcl j oj ho' hj e he hb
    ·rw [h4 j (by omega) hjn] at hj;cases hj
   rw [show fuel+1+s.length=(fuel+s.length)+1 by omega]
   have hmem:∀ i,i∈Region.ready .any (l++s).toArray lb→i<l.length∧i∈Region.ready .any l.toArray la:=by
    intro i hi
    obtain ⟨v1,oi,v2,v3⟩:=mem_ready.1 hi
    have hin:i<(l++s).toArray.size:=(Array.getElem?_eq_some_iff.1 v2).1
    have hil:i<l.length:=by
     by_cases e:i<l.length
     ·exact e
     ·have:=uM (listed:=lb) ayy v2 v3 _ (hT i au hin j0 au)
      rw [h3 _ anq,u1'] at this;cases this
    have v2':l.toArray[i]?=some oi:=by rw [opl hil] at v2;simpa using v2
    refine ⟨hil,mem_ready.2 ⟨?_,oi,v2',fun e he hb=>?_⟩⟩
    ·have q1:lb.getD i true=lb.getD i false:=by simp [dM,show i<lb.size by rw [h2];simpa using hin]
     have q2:la.getD i true=la.getD i false:=by simp [dM,h1,hil]
     rw [q2,← h3 i hil,← q1];exact v1
    ·have:=FA i oi v2 e he hb
     rw [← h3 _ (by omega)];exact v3 e he hb
   refine ⟨fun hr2=>?_,fun i hi=>?_⟩
   ·have:j0∈Region.ready .any (l++s).toArray lb:=mem_ready.2 ⟨by
     have:lb.getD j0 true=lb.getD j0 false:=by simp [dM,show j0<lb.size by rw [h2];exact ayB]
     rw [this,h3 _ anq];exact u1',o0,by rw [opl anq];simpa using u2,fun e he hb=>by
      have:=FAl j0 o0 (by simpa using u2) e he hb
      rw [h3 _ (by omega)];exact u3 e he hb⟩
    rw [hr2] at this;cases this
   ·obtain ⟨hil,hia⟩:=hmem i hi
    obtain ⟨v1,oi,v2,v3⟩:=mem_ready.1 hia
    have BX:l[i]?=some oi:=by simpa using v2
    have h:=hs i hia
    have hob:(l++s).toArray[i]?=some oi:=(opl hil).trans BX
    have hset:∀ q,i≠q→∀ (x:Array Bool),(x.setIfInBounds i true).getD q false=x.getD q false:=fun q e x=>by simp [dM,uT e]
    have step:∀ a w,wpAny P .any l.toArray Q1 fuel (la.setIfInBounds i true) a w→wpAny P .any (l++s).toArray Q (fuel+s.length) (lb.setIfInBounds i true) a w:=fun a w k =>
     ih _ _ a w rO (by simpa using h2) (fun q hq=>by
      by_cases e:i=q
      ·subst e;simp [dM,h1,h2,hil];omega
      ·rw [hset q e,hset q e];exact h3 q hq) (fun q hq hq2=>by rw [hset q (by omega)];exact h4 q hq hq2)
      (fun q oq hoq hq e he hb=>by
       have mono:∀ x,la.getD x false=true→(la.setIfInBounds i true).getD x false=true:=fun x hx=>by
        by_cases e:i=x
        ·subst e;simp [dM,h1,hil]
        ·rw [hset x e];exact hx
       by_cases e2:i=q
       ·subst e2
        rw [BX] at hoq;cases hoq
        exact mono _ (v3 e he hb)
       ·rw [hset q e2] at hq
        exact mono _ (hcl q oq hoq hq e he hb)) k
    unfold wpOp at h ⊢
    simp only [v2] at h
    simp only [hob]
    have hwant:Region.wanted oi (yielded (l++s).toArray a.tmps)=Region.wanted oi (yielded l.toArray a.tmps):=by
     cases hgd:oi.guard with
     | none=>simp [Region.wanted,hgd]
     | some gb =>
      obtain ⟨g,b⟩:=gb
      simp [Region.wanted,hgd,Xq (hg i oi g b BX hgd)]
    rw [hwant]
    by_cases hw:Region.wanted oi (yielded l.toArray a.tmps)=true
    ·rw [if_pos hw] at h ⊢
     rcases h with h|⟨h,hl⟩
     ·exact .inl (Oper.ao0 step hQ h)
     ·exact .inr ⟨h,let ⟨a,w,q⟩:=hl;⟨a,w,hQ _ _ _ (by simp) q⟩⟩
    ·rw [if_neg hw] at h ⊢
     exact step _ _ h
end
section
variable {P:Program} {C:Cx} {σ:St} {Q:Exit→St→Prop}
theorem W.Js {id:Nat} {L:List Oper} (k0:Nat) (hm:P.follows .mixedOrders=true) (hB:Region.lexB .any L.toArray=true) (hT:apZ L.toArray k0=true)
  (h:WA P C (L.take k0).toArray σ (fun e s=>e=.normal∧WL P C L.toArray (L.drop k0) s Q)):W P C (.region id L.toArray true) σ Q:=by
 refine W.rD hm fun G a w ok=>?_
 obtain ⟨l,hl⟩:∃ l,L.take k0=l:=⟨_,rfl⟩
 obtain ⟨s,hs⟩:∃ s,L.drop k0=s:=⟨_,rfl⟩
 have hL:L=l++s:=by rw [← hl,← hs,MP]
 rw [hl,hs] at h
 simp only [Region.lexB,aW] at hB
 obtain ⟨FA,_⟩:=wo (ops:=L.toArray) L.toArray.size 0 (Array.replicate L.toArray.size false) (by simp) (by simp) (fun i hi=>by simp [dM,hi] at hi ⊢;simp [hi]) hB.2
 simp only [apZ,aW] at hT
 obtain ⟨⟨T0,T1⟩,T2⟩:=hT
 have hk:l.length≤k0:=by rw [← hl];simp;omega
 by_cases hkL:k0≤L.length
 ·have hlk:l.length=k0:=by rw [← hl];simp;omega
  subst hL
  have:=afE (P:=P) (Q:=Post C Q) (Q1:=Post C (fun e s'=>e=.normal∧WL P C (l++s).toArray s s' Q)) (l:=l) (s:=s) (fun j oj ho=>FA j oj (gU _) ho)
   (fun j hj hjn i hij=>by
    have q:=List.all_eq_true.1 T1 j (List.mem_range.2 hjn)
    have e:Nat.blt j k0=false:=by
     cases hb:Nat.blt j k0 with
     | false=>rfl
     | true=>have:=dP hb;omega
    rw [e,Tm] at q
    exact List.all_eq_true.1 q i (List.mem_range.2 hij))
   (fun j o g b ho hgd=>by
    have hj:j<l.length:=(List.getElem?_eq_some_iff.1 ho).1
    have q:=List.all_eq_true.1 T2 j (List.mem_range.2 au)
    rw [show (l++s).toArray[j]?=some o by simp [qJ hj,ho]] at q
    simp only [hgd] at q
    have:=dP q
    omega)
   (fun a w ⟨s',G',⟨_,q⟩,o⟩=>q G' a w o)
   (fun e a w he ⟨s',G',⟨q,_⟩,o⟩=>absurd q he)
   l.length (Array.replicate l.length false) (Array.replicate (l++s).length false) a _ (by simp) (by simp) (fun i hi=>by rw [oJ,oJ]) (fun i _ _=>oJ _ _)
   (fun j oj _ hj=>by rw [oJ] at hj;cases hj) (by simpa using h G a w ok)
  exact ng
 ·exact absurd (by simpa using bU T0) hkL
end
end
end Go.Proofs.YthehkchjdkdbiaaGreatDoor
