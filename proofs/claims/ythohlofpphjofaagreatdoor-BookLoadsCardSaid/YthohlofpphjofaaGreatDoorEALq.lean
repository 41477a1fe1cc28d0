/- A walk that knows values as trees: regions that draw their order. -/
import Derived.Test.YthohlofpphjofaaGreatDoorE5Lq
set_option linter.unusedVariables false
set_option linter.unusedSimpArgs false
namespace Go.Proofs.YthohlofpphjofaaGreatDoor
theorem Ru {p:Prop}(h:p:=by simpa using hsz):p:=h
theorem CY {p:Prop}(h:p:=by simp [hy]):p:=h
theorem adW {p:Prop}(h:p:=by simp [dU,hsz,hlt]):p:=h
section
variable {p:Prop}
theorem am4(h:p:=by
 by_cases e:i=hi/\j=hj
 .rw [if_pos e] at x ⊢;exact R.rE h x
 exact abQ):p:=h
theorem amM(h:p:=by
 rcases hdo with ⟨hg,hv⟩|⟨hg,hv⟩
 .rw [if_pos (qM okO hg)];exact .inl (hv G a w okO _ _ λv G' w' hk hr hb=>next v G' w' (hk _ _ ok) hr hb)
 .rw [if_neg (by rw [qM okO hg];simp)];exact next undef G w ok (by rw [hv];exact .pu _ _ (.sc _)) (by rw [hv];exact .sc _)):p:=h
theorem U1(h:p:=by
 have:listed.getD j false=listed.getD j true:=by simp [dU,hsz,hlt]
 rw [this];exact h1):p:=h
theorem amq(h:p:=by
 rcases hFn p u h with h|⟨_,h⟩;.exact ok.fw p u h
 .exact h):p:=h
theorem abY(h:p:=by
 apply List.ext_getElem?;grind[tH]):p:=h
theorem amk(h:p:=by
 obtain ⟨o1',y1⟩:=some_ k1 o1 h1;exact ok.dF k1 o1' x p u y1 h2 h3):p:=h
theorem lS(h:p:=by simpa using this):p:=h
theorem abQ(h:p:=by
 .rw [if_neg e] at x ⊢;exact x):p:=h
theorem alB(h:p:=by
 refine fin g cur T' hh hgb (by rw [hn'];simpa [c1] using q1) axj trivial ⟨hn',hg,?_⟩;rw [hn'];exact q2):p:=h
theorem abP(h:p:=by cases av with
 | ow T n rows=>exact .inr o| _=>cases ho):p:=h
theorem alv(h:p:=by
 obtain ⟨o1',y1⟩:=some_ k1 o1 h1;obtain ⟨o2',y2⟩:=some_ k2 o2 h2;exact ok.dj k1 o1' k2 o2' x y1 y2 h3 h4):p:=h
theorem alr(h:p:=by .exact absurd hdi ((Oper.apart_spec (FB j i _ _ (iT _) hij h2 hoi λe he hb h=>hno ⟨e,he,hb,h⟩)).2.1 t hd)):p:=h
theorem alm(h:p:=by
 obtain ⟨e,he,hb,he2⟩:=hno;have:=hcl i _ (by simp [hi]) zJ e he hb;rw [he2,h3] at this;cases this):p:=h
theorem anD(h:p:=by
 obtain ⟨q,hq,rfl⟩:=oz hr';have:=h8 q rows[q] vs[q] (aO (by omega)) (aO hq);simp_all):p:=h
theorem asu(h:p:=by
 congr 1;refine kW λi hi hdi=>?_;by_cases e2:j=i
 .subst e2;rw [h2] at hdi;have:oj.dst=some t:=hdi;rw [hd] at this;exact absurd (by injection this with h;exact h.symm) et
 .simp [dU,sO e2]):p:=h
theorem anC(h:p:=by
 by_cases e:k'=k
 .subst e;rw [show look k' (σ.upd k' ob').M=some ob' from aB] at hx;simp_all
 .rw [show look k' (σ.upd k ob').M=look k' σ.M from ah e] at hx;simp_all):p:=h
theorem aqr(h:p:=by
 have:∀ m,j<=m->look t (ents l.toArray aW (λi=>decide (i < j)) m)=look t (ents l.toArray aW (λi=>decide (i < j)) j):=by
  intro m;induction m with
  | zero=>intro h;rw [Nat.le_zero.1 h]| succ m ihm =>
   intro h;by_cases e:j=m+1;.rw [e]
   .rw [ents,dh,uj,if_neg (λx=>by have:=rP x.1;omega),ihm (by omega)];rfl
 rw [this l.length (by omega)];exact kW λi hi _=>(bQ hi).symm):p:=h
theorem aqp(h:p:=by
 have hr:Region.ready .any l.toArray listed=[]:=by
  apply List.eq_nil_iff_forall_not_mem.2;intro j hj;obtain ⟨h1,oj,h2,_⟩:=mem_ready.1 hj;have hlt:j < l.length:=by have:=(Array.getElem?_eq_some_iff.1 h2).1;omega
  have h3:listed.getD j false=false:=by
   have:listed.getD j false=listed.getD j true:=by simp [dU,hsz,hlt]
   rw [this];exact h1
  have:=List.countP_eq_zero.1 (Nat.le_zero.1 hf) j (List.mem_range.2 hlt);simp [h3] at this
 exact ⟨hr,done listed G a w hsz hr ok⟩):p:=h
end
section
open Go.RowKit
def jL {α:Type}:Nat->List α->List α->List α
 | 0,[],cs=>cs| 0,x::l,_::cs=>x::jL 0 l cs| j+1,l,c::cs=>c::jL j l cs| _,_,[]=>[]
theorem qN {α:Type}:∀ (j:Nat)(l cs:List α),j+l.length<=cs.length->jL j l cs=cs.take j++l++cs.drop (j+l.length)
 | 0,[],cs,_=>by simp [jL]| 0,x::l,[],h=>by simp at h| 0,x::l,c::cs,h=>by
  have:=qN 0 l cs (by simp at h ⊢;omega);simp [jL,this]| j+1,l,[],h=>by simp at h| j+1,l,c::cs,h=>by
  have:=qN j l cs (by simp at h;omega);simp_all[jL,Nat.add_right_comm]
theorem oP {α:Type} {j:Nat} {l cs:List α} (h:j+l.length<=cs.length):(jL j l cs).length=cs.length:=by grind[qN]
theorem tH {α:Type} {j:Nat} {l cs:List α} (h:j+l.length<=cs.length)(i:Nat):(jL j l cs)[i]?=if j<=i/\i<j+l.length then l[i-j]? else cs[i]?:=by
 rw [qN j l cs h];by_cases h1:i<j;all_goals grind
theorem ajs {α β:Type} (Q:α->β->Prop) {j:Nat} {l cs:List α} {m ds:List β} (h:j+l.length<=cs.length)(hm:m.length=l.length)(hd:ds.length=cs.length)(h1:∀ (i:Nat)x y,l[i]?=some x->m[i]?=some y->Q x y)(h2:∀ (i:Nat)x y,cs[i]?=some x->ds[i]?=some y->Q x y):∀ (i:Nat)x y,(jL j l cs)[i]?=some x->(jL j m ds)[i]?=some y->Q x y:=by grind[tH]
theorem ahD {n:Nat}:∀ (vs:List (List Value)),(∀ r∈vs,r.length=n)->∀ (i j:Nat) (r l:List Value),vs[i]?=some r->j+l.length<=n->(vs.set i (jL j l r)).flatten=jL (i*n+j) l vs.flatten:=by
 intro vs;induction vs with
 | nil=>simp| cons v t ih =>
  intro hn i j r l h hj;have hv:v.length=n:=hn v (by simp);cases i with
  | zero =>grind[qN]| succ i =>
   have ht:∀ r∈t,r.length=n:=λr hr=>hn r (by simp [hr]);have h':t[i]?=some r:=by simpa using h
   have hi:i<t.length:=(List.getElem?_eq_some_iff.1 h').1;have hfl:t.flatten.length=t.length*n:=nS ht;have hle:i*n+n<=t.length*n:=by
    have:(i+1)*n<=t.length*n:=Ur n hi;grind
   rw [List.set_cons_succ,NR,NR,ih ht i j r l h' hj,Rf,qN _ l t.flatten (by rw [hfl];omega),qN _ l (v++t.flatten) (by grind)];have e1:List.take (i*n+n+j) v=v:=ou au;have e2:List.drop (i*n+n+j+l.length) v=[]:=AL au;rw [List.take_append,List.drop_append,e1,e2];rw [show i*n+n+j-v.length=i*n+j by omega,show i*n+n+j+l.length-v.length=i*n+j+l.length by omega];simp
def AV.ajp:AV->Bool
 | .sc _=>true| .ls _ _=>true| .pr _=>true| _=>false
def AV.TL:AV->Bool
 | .fn _ l=>l.all AV.ajp| av=>av.ajp
theorem apB {av:AV} (h:av.ajp=true)(nk:Nat):Bd nk av:=by cases av<;>first|exact .sc _|exact .ls _ _|exact .pr _|cases h
theorem adr {av:AV} (h:av.TL=true):av.own=false:=by cases av<;>first|rfl|cases h
theorem Ad {av:AV} (h:av.TL=true)(nk:Nat):Bd nk av:=by cases av with
 | fn f l=>exact .fn f l λi x hx=>apB (List.all_eq_true.1 h x (cZ hx)) nk| sc v=>exact .sc v| ls n rows=>exact .ls n rows| pr cells=>exact .pr cells| _=>cases h
def AO.put:AO->Nat->Nat->List AV->Option AO
 | .box T cells,0,j,l=>bif Nat.ble (j+l.length) cells.length then some (.box T (jL j l cells)) else none| .box _ _,_+1,_,_=>none| .row T n rows,i,j,l =>match rows[i]? with
  | some r=>if j+l.length<=r.length/\l.all AV.TL=true then some (.row T n (rows.set i (jL j l r))) else none| none=>none
 | .jO T n rows,i,j,l =>match rows[i]? with
  | some r=>if j+l.length<=r.length/\l.all AV.TL=true then some (.jO T n (rows.set i (jL j l r))) else none| none=>none
 | .JU _ _ _ _ _ _,_,_,_=>none| .rV _ _ _ _ _ _,_,_,_=>none| .vK _ _ _,_,_,_=>none| .opq _,_,_,_=>none
section
variable {P:Program} {C:Cx} {σ σ':St} {G G':Gh} {a:Act} {w w':World} {o:Oper} {d:Tmp}
theorem Ir (w:World)(g:Nat)(cur:Array Value):Kept (λx=>x=g) w (w.setRow g cur) :=⟨rfl,rfl,rfl,by simp,λk _ hk=>setRow_other w g k cur hk⟩
theorem Ok.write (ok:Ok C σ G a w) {k g:Nat} {ob ob':AO} (cur:Array Value) (hk:look k σ.M=some ob) (hg:G.fp k g) (hob:o8 G (w.setRow g cur) k ob') (hbd:ob'.bd σ.nk) :Ok C (σ.upd k ob') G a (w.setRow g cur):=by
 have hl:∀ k' o,look k' (σ.upd k ob').M=some o->(k'=k/\o=ob')\/(k'≠k/\look k' σ.M=some o):=λk' o hx=>by exact anC
 have hne:∀ k' o x,k'≠k->look k' σ.M=some o->G.fp k' x->x≠g:=λk' o x e h1 h2 h3=>by subst h3;exact e (ok.dj k' o k ob x h1 hk h2 hg)
 have hsz:(w.setRow g cur).heap.size=w.heap.size:=by simp
 have some_:∀ k' o,look k' (σ.upd k ob').M=some o->∃ o',look k' σ.M=some o':=λk' o h=>by grind
 refine ⟨ok.sz,ok.df,ok.tm,ok.bel.on (Ir w g cur) (λx hx=>by subst hx;exact (ok.my k ob x hk hg).1),λp u h=>?_,ok.f0,ok.f1,?_,?_,?_,?_⟩;.rw [World.cell?_of_block (setRow_other w g p.block cur (ok.dF k ob g p u hk hg h))];exact ok.fw p u h
 .intro k' o x;rcases hl k' o x with⟨rfl,rfl⟩|⟨e,y⟩;.exact ⟨(ok.ob k' ob hk).1,hbd,hob⟩
  .exact ⟨(ok.ob k' o y).1,(ok.ob k' o y).2.1,(ok.ob k' o y).2.2.keep (Gh.le.refl _ _) (ok.ob k' o y).1 (ok.ob k' o y).2.1 rfl λx hx=>setRow_other w g x cur (hne k' o x e y hx)⟩
 .intro k' o x h1 h2;obtain ⟨o',y⟩:=some_ k' o h1;rw [hsz];exact ok.my k' o' x y h2
 .intro k1 o1 k2 o2 x h1 h2 h3 h4;exact alv
 .intro k1 o1 x p u h1 h2 h3;exact amk
theorem TD {av:AV} {v:Value} (r:R G av v)(h:av.xO=true):v.oneCell'=true:=by cases av with
 | sc x=>rw [r.fM];exact h| ag l=>cases h| tu l=>cases h| ls n rows=>obtain⟨A,cap,ad,u,rfl,_⟩:=r.E8.Ce;rfl| ow T n rows=>cases h| pr cells=>obtain⟨p,u,rfl,_⟩:=r.oO.oO;rfl| pt k i j=>obtain⟨p,rfl,_⟩:=r.lu;rfl| sl k=>exact r.lH.2| fn f l=>obtain⟨cs,rfl,_⟩:=r.Cb;obtain⟨g,x,y,e⟩:=Zk f cs;rw [e];rfl
theorem akp {cur:List Value} {K off:Nat} {l:List Value} (h:off+l.length<=K)(hK:K<=cur.length):(jL off l cur).take K=jL off l (cur.take K):=by exact abY
theorem cO.put {T n:Nat} {rows:List (List AV)} {v:Value} {φ:Nat->Prop} {X X':Nat->Nat->(Nat->Prop)->AV->Value->Prop} (h:cO w T n rows v φ X) {i j:Nat} {r l:List AV} {us:List Value} (hr':rows[i]?=some r) (hle:j+l.length<=r.length) (hcl:us.length=l.length)(hone:∀ u∈us,u.oneCell'=true) {g:Nat} {cur:Array Value} {t:TypeId} (hh:w.heap[g]?=some (.cells cur t (0,0))) (hvg:v.ownBlock=some g)(hnew:∀ (s:Nat) x u ψ,l[s]?=some x->us[s]?=some u->X' i (j+s) ψ x u)(hold:∀ (q s:Nat) ψ x u,(∀ z,ψ z->z≠g)->¬ (q=i/\j<=s/\s<j+l.length)->X q s ψ x u->X' q s ψ x u) :i*n+j+us.length<=cur.size/\cO (w.setRow g (jL (i*n+j) us cur.toList).toArray) T n (rows.set i (jL j l r)) v φ X':=by
 obtain ⟨hrl,vs,Φ,h4,h5,h7,hgf,OT,KN,h8,h6⟩:=h;have hi:i<rows.length:=(List.getElem?_eq_some_iff.1 hr').1;have hv':vs[i]?=some vs[i]:=aO (by omega);have e1:=h8 i r _ hr' hv';have hvl:∀ r∈vs,r.length=n:=by
  intro r' hr';obtain ⟨q,hq,rfl⟩:=oz hr';have:=h8 q rows[q] vs[q] (aO (by omega)) (aO hq);grind
 have hrn:r.length=n:=hrl r (cZ hr');rcases h4.2 with⟨_,e0⟩|⟨g',cap,cur',e,hbase,hh',hnc,hcm,hcs,ht⟩;.omega
 .obtain rfl:g'=g:=by rw [e] at hvg;exact Option.some.inj hvg
  obtain ⟨rfl,rfl⟩:cur'=cur/\T=t:=by rw [hh] at hh';cases hh';exact ⟨rfl,rfl⟩
  have hin:i*n+n<=vs.length*n:=by
   have:(i+1)*n<=vs.length*n:=Ur n au;rw [Rf] at this;exact this
  have hcap:vs.length*n<=cap*n:=Ur n hnc;have hfp:=ahD vs hvl i j vs[i] us hv' au;have az4:∀ r∈vs.set i (jL j us vs[i]),r.length=n:=by
   intro q hq;rcases Us hq with hq|rfl;.exact hvl q hq
   .rw [oP (by omega)];omega
  refine ⟨by rw [hcs];omega,?_,vs.set i (jL j us vs[i]),λq s x=>¬ (q=i/\j<=s/\s<j+l.length)/\Φ q s x,⟨?_,.inr ⟨g',cap,_,?_,hbase,setRow_heap w _ _ _ _ _ hh,?_,hcm,?_,?_⟩⟩,by simp [h5],?_,hgf,λq s x hx=>OT q s x hx.2,λq s q' s' x h1 h2=>KN q s q' s' x h1.2 h2.2,?_,?_⟩
  .intro q hq;rcases Us hq with hq|rfl;.exact hrl q hq
   .rw [oP (by omega)];exact hrn
  .rw [nS az4]
  .rw [e];simp
  .simpa using hnc
  .rw [QY,oP (by rw [hcl];simp [hcs];omega)];simpa using hcs
  .rw [hfp,Rh,akp (by omega) (by simp [hcs];omega),ht]
  .intro q hq u hu;rcases Us hq with hq|rfl;.exact h7 q hq u hu
   .obtain ⟨s,hs,rfl⟩:=oz hu;have:=tH (j:=j) (l:=us) (cs:=vs[i]) au s;rw [aO hs] at this;split at this;.exact hone _ (cZ this.symm)
    .exact h7 _ (gB _) _ (cZ this.symm)
  .intro q r1 r2 hq1 hq2;by_cases eq:q=i
   .subst eq;rw [sK (by omega)] at hq1 hq2;cases hq1;cases hq2;rw [oP (by omega),oP hle];exact e1
   .rw [pV (λh=>eq h.symm)] at hq1 hq2;exact h8 q r1 r2 hq1 hq2
  .intro q r1 r2 s x u hq1 hq2 hs hu;have hne:∀ z,(¬ (q=i/\j<=s/\s<j+l.length)/\Φ q s z)->z≠g':=λz hz h=>(OT q s z hz.2).2 (by rw [e,h];rfl);by_cases eq:q=i
   .subst eq;rw [sK (by omega)] at hq1 hq2;cases hq1;cases hq2;rw [tH hle] at hs;rw [tH (by omega),hcl] at hu;by_cases e3:j<=s/\s<j+l.length
    .rw [if_pos e3] at hs hu;have:=hnew (s-j) x u (λz=>¬ (q=q/\j<=s/\s<j+l.length)/\Φ q s z) hs hu;rwa [show j+(s-j)=s by omega] at this
    .rw [if_neg e3] at hs hu;have h61:=h6 q r _ s x u hr' hv' hs hu;have:(λz=>¬ (q=q/\j<=s/\s<j+l.length)/\Φ q s z)=Φ q s:=by
      funext z;exact propext ⟨λh=>h.2,λh=>⟨λh'=>e3 h'.2,h⟩⟩
     show X' q s (λz=>¬ (q=q/\j<=s/\s<j+l.length)/\Φ q s z) x u;rw [this];exact hold q s (Φ q s) x u (λz hz=>hne z ⟨λh'=>e3 h'.2,hz⟩) (λh'=>e3 h'.2) h61
   .rw [pV (λh=>eq h.symm)] at hq1 hq2;have h61:=h6 q r1 r2 s x u hq1 hq2 hs hu;have:(λz=>¬ (q=i/\j<=s/\s<j+l.length)/\Φ q s z)=Φ q s:=by
     funext z;exact propext ⟨λh=>h.2,λh=>⟨λh'=>eq h'.1,h⟩⟩
    show X' q s (λz=>¬ (q=i/\j<=s/\s<j+l.length)/\Φ q s z) x u;rw [this];exact hold q s (Φ q s) x u (λz hz=>hne z ⟨λh'=>eq h'.1,hz⟩) (λh'=>eq h'.1) h61
theorem cO.blk {T n:Nat} {rows:List (List AV)} {v:Value} {φ:Nat->Prop} {X:Nat->Nat->(Nat->Prop)->AV->Value->Prop} (h:cO w T n rows v φ X)(hp:0<rows.length):∃ g cur,v.ownBlock=some g/\φ g/\w.heap[g]?=some (.cells cur T (0,0)):=by
 obtain⟨hrl,vs,Φ,h4,h5,h7,hgf,_⟩:=h;rcases h4.2 with⟨_,e0⟩|⟨g,cap,cur,e,_,hh,_⟩;.omega
 .have:v.ownBlock=some g:=by rw [e];rfl
  simp_all
theorem WO.store {T m:Nat} {x y:Operand} {k i j:Nat} {ob ob':AO} {av:AV} {l:List AV} (ho:o.op=.store T x y) (hds:o.dst=none) (hn:fZ P T=some m) (hx:σ.ev x=some (.pt k i j)) (hk:look k σ.M=some ob) (hy:σ.ev y=some av)(hB:av.l7=true) (hl:av.cells=l) (hm:l.length=m) (h1:l.all AV.xO=true) (hp:ob.put i j l=some ob'):WO P C o σ (σ.upd k ob'):=by
 intro G a w ok N Q' hN;obtain ⟨p,ep,p1,p2,p3⟩:=(ok.l9 hx).2.lu;obtain ⟨hb,hr⟩:=ok.l9 hy;obtain ⟨c1,c2⟩:=uy hr hB;have cb:=Ef hb;rw [hl] at c1 c2 cb;obtain ⟨v,hv⟩:∃ v,a.eval y=v:=⟨_,rfl⟩;rw [hv] at c1 c2;have hone:∀ u∈v.cells.toList,u.oneCell'=true:=λu hu=>by
  obtain ⟨q,hq,rfl⟩:=oz hu;have hq':q<l.length:=by simpa [c1] using hq
  exact TD (c2 q l[q] _ (aO hq') (by simp at hq;simp [hq])) (List.all_eq_true.1 h1 _ (gB hq'))
 obtain rfl:=addr_eq p1 p2 p3;have fin:∀ (g:Nat) (cur:Array Value) (t:TypeId),w.heap[g]?=some (.cells cur t (0,0))->g=G.b k->i*G.n k+j+l.length<=cur.size->G.fp k g->ob'.bd σ.nk ->(o8 G (w.setRow g (jL (i*G.n k+j) v.cells.toList cur.toList).toArray) k ob')->o.wp P a w N Q':=λg cur t hg hgb hle hown hbd hob=>by
  have hst:=run_storeCells_at P g (i*G.n k+j) t v.cells.toList 0 cur w hg (by simp [c1];omega) hone;rw [NU,← qN _ _ _ (by simp [c1];omega)] at hst;refine lN ?_;simp only [ho,ep,hv,Instr.storeAt,Instr.sureAddr,storeVar,Sem.run_bind,Sem.run_pure,Result.andThen_ok,kL hn,← hgb,hst];rw [if_neg (by rw [c1,hm];simp)];simp only [Sem.run_bind,Sem.run_pure,Result.andThen_ok,hst,Oper.upon];rw [hds];exact hN G _ _ (ok.write _ hk hown hob hbd)
 have ah3:=ok.ob k ob hk;cases ob with
 | box T' cells =>cases i with
  | succ i=>simp [AO.put] at hp| zero =>
   simp only [AO.put] at hp;cases hle:Nat.ble (j+l.length) cells.length with
   | false=>simp [hle] at hp| true =>
    simp [hle] at hp;subst hp;have hle:=bG hle;obtain ⟨hf,cs,Φ,hbk,hs,OT,KN,hc⟩:=ah3.2.2;refine fin (G.b k) cs T' hbk rfl (by rw [hs];simpa using hle) hf (λq x hx=>?_) ⟨hf,_,λq x=>¬ (j<=q/\q<j+l.length)/\Φ q x,setRow_heap w _ _ _ _ _ hbk,?_,λq x hx=>OT q x hx.2,λq q' x h1 h2=>KN q q' x h1.2 h2.2,?_⟩
    .rw [tH hle] at hx;split at hx;.exact cb _ x hx
     .exact ah3.2.1 _ x hx
    .simp only [AP,oC,QY];rw [oP (by simp [c1,hs];exact hle),oP hle];simpa using hs
    .intro q x u hx hu;simp only [AP,oC,abv] at hu;rw [tH hle] at hx;rw [tH (by simp [c1,hs];exact hle)] at hu;simp only [Ut,c1] at hu;by_cases e:j<=q/\q<j+l.length
     .rw [if_pos e] at hx hu;exact .inl (c2 _ x u hx Rw)
     .rw [if_neg e] at hx hu;refine ((hc q x u hx Rw).keep (Gh.le.refl _ σ.nk) (ah3.2.1 q x hx) λz hz=>setRow_other w _ z _ (OT q z hz).2).wide λz hz=>⟨e,hz⟩
 | row T' n rows =>
  simp only [AO.put] at hp;cases hr':rows[i]? with
  | none=>simp [hr'] at hp| some r =>
   simp only [hr'] at hp;by_cases hcond:j+l.length<=r.length/\l.all AV.TL=true
   .rw [if_pos hcond] at hp;cases hp;obtain ⟨hle,hpu⟩:=hcond;obtain ⟨hn',hg,hR⟩:=ah3.2.2;obtain ⟨g,cur,hvg,axj,hh⟩:=hR.blk (by have:=(List.getElem?_eq_some_iff.1 hr').1;omega);have hgb:=hg g hvg;obtain ⟨q1,q2⟩:=hR.put (X':=XP G.F) hr' hle (us:=v.cells.toList) (by simpa using c1) hone hh hvg (λs x u ψ hs hu=>(Ad (List.all_eq_true.1 hpu x (cZ hs)) 0).rp (c2 s x u hs Rw)) (λq s ψ x u _ _ h=>h);exact alB
   .rw [if_neg hcond] at hp;cases hp
 | jO T' n rows =>
  simp only [AO.put] at hp;cases hr':rows[i]? with
  | none=>simp [hr'] at hp| some r =>
   simp only [hr'] at hp;by_cases hcond:j+l.length<=r.length/\l.all AV.TL=true
   .rw [if_pos hcond] at hp;cases hp;obtain ⟨hle,hpu⟩:=hcond;obtain ⟨hn',hg,hR⟩:=ah3.2.2;obtain ⟨g,cur,hvg,axj,hh⟩:=hR.blk (by have:=(List.getElem?_eq_some_iff.1 hr').1;omega);have hgb:=hg g hvg;obtain ⟨q1,q2⟩:=hR.put (X':=XO G.F (w.setRow g (jL (i*n+j) v.cells.toList cur.toList).toArray)) hr' hle (us:=v.cells.toList) (by simpa using c1) hone hh hvg (λs x u ψ hs hu=>.pu _ _ _ ((Ad (List.all_eq_true.1 hpu x (cZ hs)) 0).rp (c2 s x u hs Rw))) (λq s ψ x u hne _ h=>OW.keep (λ_ _ h=>h) h λz hz=>setRow_other w _ z _ (hne z hz));exact alB
   .rw [if_neg hcond] at hp;cases hp
 | JU T' n rows hi hj y=>cases hp| rV T' n rows hi hj y=>cases hp| vK T' e l'=>cases hp| opq q=>cases hp
end
def AV.pu1:AV->Bool
 | .ag l=>l.all AV.TL| av=>av.TL
def AV.pu2:AV->Bool
 | .tu l=>l.all AV.pu1| av=>av.pu1
theorem ajq {av:AV} (h:av.pu1=true)(nk:Nat):Bd nk av:=by cases av with
 | ag l=>exact .ag l λi x hx=>Ad (List.all_eq_true.1 h x (cZ hx)) nk| _=>refine Ad ?_ nk;exact h
theorem qB {av:AV} (h:av.pu2=true)(nk:Nat):Bd nk av:=by cases av with
 | tu l=>exact .tu l λi x hx=>ajq (List.all_eq_true.1 h x (cZ hx)) nk| _=>refine ajq ?_ nk;exact h
def St.evs (σ:St):List Operand->Option (List AV)
 | []=>some []| x::r =>match σ.ev x,St.evs σ r with
  | some av,some l=>some (av::l)| _,_=>none
section
variable {P:Program} {C:Cx} {σ σ':St} {G G':Gh} {a:Act} {w w':World} {o:Oper} {d:Tmp}
theorem Ok.evl(ok:Ok C σ G a w):∀ {xs:List Operand} {l:List AV},σ.evs xs=some l->(xs.map a.eval).length=l.length/\∀ (i:Nat)av u,l[i]?=some av->(xs.map a.eval)[i]?=some u->R G av u
 | [],l,h=>by cases h;simp| x::r,l,h=>by
  unfold St.evs at h;cases h1:σ.ev x with
  | none=>simp [h1]at h| some av =>cases h2:σ.evs r with
   | none=>simp [h1,h2]at h| some l' =>
    simp [h1,h2]at h;subst h;obtain⟨e1,e2⟩:=ok.evl h2;refine⟨by simpa using e1,λi y u hy hu=>?_⟩;cases i with
    | zero=>cases hy;cases hu;exact(ok.l9 h1).2| succ i=>grind
theorem Ok.called (ok:Ok C σ G a w) {F':View} (hb:Below w.heap.size w w') (h1:View.le G.F F') (h2:∀ p u,F' p=some u->w'.cell? p=some u) (h3:∀ p u,F' p=some u->G.F p=some u\/w.heap.size<=p.block) :Ok C σ { G with F:=F' } a w' :=ok.world (S:=λ_=>False) ⟨h1,λ_ _=>rfl,λ_ _=>rfl,λ_ _=>rfl⟩ (λ_ _=>rfl) (Kept.below hb) (λ_ h=>h.elim) (λk o x p q=>hb.block x (ok.my k o x p q).2) h2 h3
theorem WV.call {f:FuncId} {xs:Array Operand} {ts:Array TypeId} {args:List AV} {res:AV} (ho:o.op=.call { callee:=.value (.func f),args:=xs,argTypes:=ts }) (hc:∀ vs w,(callFunc f vs).run P w=.ok (.enter f vs) w)(hx:σ.evs xs.toList=some args) (hp:args.all AV.pu2=true) (h:bC P f args res):WV P C o σ res:=by
 intro G a w ok N Q' hN;obtain ⟨e1,e2⟩:=ok.evl hx;have qo:=h w G.F (xs.toList.map a.eval) ok.fw ⟨e1,λi av u p q=>(qB (List.all_eq_true.1 hp av (cZ p)) 0).rp (e2 i av u p q)⟩;refine lN ?_;have ev:a.eval (.func f)=.func (.func f) #[] #[]:=rfl;have e3:(#[]++xs.map a.eval++#[]:Array Value)=(xs.toList.map a.eval).toArray:=by apply AQ;simp
 simp only [ho,resolve,ev,Deferred.ofValue,invoke,Sem.run_bind,Sem.run_pure,Result.andThen_ok,hc,Oper.upon,e3];refine qo.mono λe w1 ⟨v,F',he,hb,h1,h2,h3,h4⟩=>?_;subst he;exact hN v _ w1 (λBX a'' DF=>DF.called hb h1 h2 h3) (.pu _ _ h4) (h4.bd _)
theorem WV.inv {f:FuncId} {x:Operand} {name:String} {t:TypeId} {rv:Value} {l:List AV} {xs:Array Operand} {ts:Array TypeId} {args:List AV} {res:AV} (ho:o.op=.call { callee:=.invoke x name,args:=xs,argTypes:=ts })(hr:σ.ev x=some (.sc (.iface t rv))) (hc:∀ vs w,(callMethod (.iface t rv) name vs).run P w=.ok (.enter f (#[rv]++vs)) w) (hrv:rv=.agg #[])(hx:σ.evs xs.toList=some args) (hp:args.all AV.pu2=true) (h:bC P f (.ag []::args) res):WV P C o σ res:=by
 intro G a w ok N Q' hN;obtain ⟨e1,e2⟩:=ok.evl hx;subst hrv;have qo:=h w G.F (.agg #[]::xs.toList.map a.eval) ok.fw ⟨by simpa using e1,λi av u p q=>by cases i with
  | zero=>cases p;cases q;exact .ag [] #[] rfl λi av u h=>by simp at h| succ i =>
   have p:args[i]?=some av:=by simpa using p
   exact (qB (List.all_eq_true.1 hp av (cZ p)) 0).rp (e2 i av u p wF)⟩;refine lN ?_;have e4:(#[Value.iface t (.agg #[])]++xs.map a.eval:Array Value)[0]?=some (Value.iface t (.agg #[])):=by rw [FN (by simp)];rfl
 have e5:(#[Value.iface t (.agg #[])]++xs.map a.eval:Array Value).extract 1 (#[Value.iface t (.agg #[])]++xs.map a.eval:Array Value).size=xs.map a.eval:=by
  apply AQ;simp [ou]
 simp only [ho,resolve,ok.evs hr,invoke,Sem.run_bind,Sem.run_pure,Result.andThen_ok,e4,e5,hc,Oper.upon];have e6:(#[Value.agg #[]]++xs.map a.eval:Array Value)=(Value.agg #[]::xs.toList.map a.eval).toArray:=by
  apply AQ;first|rfl|(simp;done)|(rw [Array.toList_append];simp;done)
 rw [e6];refine qo.mono λe w1 ⟨v,F',he,hb,h1,h2,h3,h4⟩=>?_;subst he;exact hN v _ w1 (λBX a'' DF=>DF.called hb h1 h2 h3) (.pu _ _ h4) (h4.bd _)
end
def AV.Fe (ρ:Nat->Nat):AV->AV
 | .pt k i j=>.pt (ρ k) i j| .sl k=>.sl (ρ k)| av=>av
def AV.rE (ρ:Nat->Nat):AV->AV
 | .fn f l=>.fn f (l.map (AV.Fe ρ))| av=>av.Fe ρ
def AV.BP (ρ:Nat->Nat):AV->AV
 | .ag l=>.ag (l.map (AV.rE ρ))| av=>av.rE ρ
def AV.ren (ρ:Nat->Nat):AV->AV
 | .tu l=>.tu (l.map (AV.BP ρ))| av=>av.BP ρ
def AV.in0(nk:Nat):AV->Bool
 | .pt k _ _=>Nat.blt k nk| .sl k=>Nat.blt k nk| .ag _=>false| .tu _=>false| .fn _ _=>false| _=>true
def AV.in1 (nk:Nat):AV->Bool
 | .fn _ l=>l.all (AV.in0 nk)| av=>av.in0 nk
def AV.in2 (nk:Nat):AV->Bool
 | .ag l=>l.all (AV.in1 nk)| av=>av.in1 nk
def AV.inn (nk:Nat):AV->Bool
 | .tu l=>l.all (AV.in2 nk)| av=>av.in2 nk
def AO.ren (ρ:Nat->Nat):AO->AO
 | .box T cells=>.box T (cells.map (AV.rE ρ))| .JU T n rows hi hj x=>.JU T n rows hi hj (x.rE ρ)| .rV T n rows hi hj x=>.rV T n rows hi hj (x.rE ρ)| ob=>ob
def AO.inn (nk:Nat):AO->Bool
 | .box _ cells=>cells.all (AV.in1 nk)| .row _ _ _=>true| .jO _ _ _=>true| .JU _ _ _ _ _ x=>x.in1 nk| .rV _ _ _ _ _ x=>x.in1 nk| .vK _ _ _=>true| .opq _=>true
def TrT (σ:St)(ρ:Nat->Nat)(nk:Nat):List (Nat×AV)->Prop
 | []=>True| x::r=>(look x.1 σ.t=some (x.2.ren ρ)/\x.2.inn nk=true)/\TrT σ ρ nk r
def Vl (σ:St)(ρ:Nat->Nat)(nk:Nat):List (Nat×AO)->Prop
 | []=>True| x::r=>(look (ρ x.1) σ.M=some (x.2.ren ρ)/\x.2.inn nk=true/\Nat.blt x.1 nk=true)/\Vl σ ρ nk r
theorem ah9 {nk:Nat} {av:AV} (h:av.in0 nk=true):Bd nk av:=by cases av with
 | sc v=>exact .sc v| ls n rows=>exact .ls n rows| ow T n rows=>exact .ow T n rows| pr cells=>exact .pr cells| pt k i j=>exact .pt k i j (dn h)| sl k=>exact .sl k (dn h)| _=>cases h
theorem zK {nk:Nat} {av:AV} (h:av.in1 nk=true):Bd nk av:=by cases av with
 | fn f l=>exact .fn f l λi x hx=>ah9 (List.all_eq_true.1 h x (cZ hx))| _=>refine ah9 ?_;exact h
theorem aia {nk:Nat} {av:AV} (h:av.in2 nk=true):Bd nk av:=by cases av with
 | ag l=>exact .ag l λi x hx=>zK (List.all_eq_true.1 h x (cZ hx))| _=>refine zK ?_;exact h
theorem Gv {nk:Nat} {av:AV} (h:av.inn nk=true):Bd nk av:=by cases av with
 | tu l=>exact .tu l λi x hx=>aia (List.all_eq_true.1 h x (cZ hx))| _=>refine aia ?_;exact h
def Gh.ren (G:Gh)(ρ:Nat->Nat):Gh:=⟨G.F,λk=>G.b (ρ k),λk=>G.n (ρ k),λk=>G.h (ρ k),λk=>G.fp (ρ k)⟩
theorem R.Fe {G:Gh} {ρ:Nat->Nat} {nk:Nat} {av:AV} {v:Value} (h:av.in0 nk=true)(r:R G (av.Fe ρ) v):R (G.ren ρ) av v:=by cases av with
 | pt k i j=>obtain⟨p,rfl,a,b,c⟩:=r.lu;exact .pt k i j p a b c| sl k=>obtain⟨rfl,b⟩:=r.lH;exact R.sl (G:=G.ren ρ) k b| sc x=>rw [r.fM];exact .pu _ _ (.sc x)| ls n rows=>exact .pu _ _ r.E8| pr cells=>exact .pu _ _ r.oO| ow T n rows=>exact r.W9.elim| _=>cases h
theorem R.rE {G:Gh} {ρ:Nat->Nat} {nk:Nat} {av:AV} {v:Value} (h:av.in1 nk=true) (r:R G (av.rE ρ) v):R (G.ren ρ) av v:=by cases av with
 | fn f l =>
  obtain ⟨cs,rfl,h1,h2⟩:=R.Cb (l:=l.map (AV.Fe ρ)) r;exact .fn f l cs yh λi av u x y=>R.Fe (List.all_eq_true.1 h av (cZ x)) (h2 i _ u (by simp_all) y)| ag l=>cases h| tu l=>cases h| pt k i j=>exact R.Fe (nk:=nk) h r| sl k=>exact R.Fe (nk:=nk) h r| sc x=>exact R.Fe (nk:=nk) h r| ls n rows=>exact R.Fe (nk:=nk) h r| ow T n rows=>exact R.Fe (nk:=nk) h r| pr cells=>exact R.Fe (nk:=nk) h r
theorem R.BP {G:Gh} {ρ:Nat->Nat} {nk:Nat} {av:AV} {v:Value} (h:av.in2 nk=true) (r:R G (av.BP ρ) v):R (G.ren ρ) av v:=by cases av with
 | ag l =>
  obtain ⟨cs,rfl,h1,h2⟩:=R.Ed (l:=l.map (AV.rE ρ)) r;exact .ag l cs yh λi av u x y=>R.rE (List.all_eq_true.1 h av (cZ x)) (h2 i _ u (by simp_all) y)| tu l=>cases h| fn f l=>exact R.rE (nk:=nk) h r| pt k i j=>exact R.rE (nk:=nk) h r| sl k=>exact R.rE (nk:=nk) h r| sc x=>exact R.rE (nk:=nk) h r| ls n rows=>exact R.rE (nk:=nk) h r| ow T n rows=>exact R.rE (nk:=nk) h r| pr cells=>exact R.rE (nk:=nk) h r
theorem R.au4 {G:Gh} {ρ:Nat->Nat} {nk:Nat} {av:AV} {v:Value} (h:av.inn nk=true) (r:R G (av.ren ρ) v):R (G.ren ρ) av v:=by cases av with
 | tu l =>
  obtain ⟨cs,rfl,h1,h2⟩:=R.Ym (l:=l.map (AV.BP ρ)) r;exact .tu l cs yh λi av u x y=>R.BP (List.all_eq_true.1 h av (cZ x)) (h2 i _ u (by simp_all) y)| ag l=>exact R.BP (nk:=nk) h r| fn f l=>exact R.BP (nk:=nk) h r| pt k i j=>exact R.BP (nk:=nk) h r| sl k=>exact R.BP (nk:=nk) h r| sc x=>exact R.BP (nk:=nk) h r| ls n rows=>exact R.BP (nk:=nk) h r| ow T n rows=>exact R.BP (nk:=nk) h r| pr cells=>exact R.BP (nk:=nk) h r
theorem CR.ren {G:Gh} {w:World} {ρ:Nat->Nat} {nk:Nat} {φ:Nat->Prop} {av:AV} {v:Value} (h:av.in1 nk=true)(r:CR G w φ (av.rE ρ) v):CR (G.ren ρ) w φ av v:=by
 rcases r with r|o;.exact .inl (R.rE h r)
 .by_cases ho:av.own=true;.exact abP
  .have ho2:(av.rE ρ).own=false:=by cases av<;>first|rfl|exact absurd rfl ho
   exact .inl (R.rE h (.pu _ _ (OW.p o ho2)))
theorem o8.ren {G:Gh} {w:World} {ρ:Nat->Nat} {nk k:Nat} {ob:AO} (h:ob.inn nk=true) (g:o8 G w (ρ k) (ob.ren ρ)):ob.bd nk/\o8 (G.ren ρ) w k ob:=by cases ob with
 | box T cells =>
  obtain ⟨b1,cs,Φ,b2,b3,b4,b5,b6⟩:=g;exact ⟨λi av x=>zK (List.all_eq_true.1 h av (cZ x)),b1,cs,Φ,b2,by simpa using b3,b4,b5,λi av u x y=>CR.ren (List.all_eq_true.1 h av (cZ x)) (b6 i _ u (by simp_all) y)⟩| row T n rows=>exact ⟨trivial,g⟩| jO T n rows=>exact ⟨trivial,g⟩| JU T n rows hi hj y =>
  obtain ⟨g1,g2,g3⟩:=g;refine ⟨zK h,g1,g2,g3.keep (λ_ _=>rfl) λi r j av ψ u _ _ _ x=>?_⟩;unfold XH at x ⊢;exact am4| rV T n rows hi hj y =>
  obtain ⟨g1,g2,g3⟩:=g;refine ⟨zK h,g1,g2,g3.keep (λ_ _=>rfl) λi r j av ψ u _ _ _ x=>?_⟩;unfold XQ at x ⊢;exact am4| vK T e l=>exact ⟨trivial,g⟩| opq q=>exact ⟨trivial,g⟩
theorem TrT.at_ {σ:St} {ρ:Nat->Nat} {nk:Nat}:∀ {t:List (Nat×AV)},TrT σ ρ nk t->∀ i av,look i t=some av->look i σ.t=some (av.ren ρ)/\av.inn nk=true
 | [],_,i,av,h=>by cases h| x::r,ht,i,av,h=>by
  by_cases e:i=x.1
  .subst e;rw [show look x.1 (x::r)=some x.2 from aB]at h;cases h;exact ht.1
  .rw [show look i (x::r)=look i r from ah e]at h;exact TrT.at_ ht.2 i av h
theorem Vl.at_ {σ:St} {ρ:Nat->Nat} {nk:Nat}:∀ {t:List (Nat×AO)},Vl σ ρ nk t->∀ i ob,look i t=some ob->look (ρ i) σ.M=some (ob.ren ρ)/\ob.inn nk=true/\i<nk
 | [],_,i,av,h=>by cases h| x::r,ht,i,av,h=>by
  by_cases e:i=x.1
  .subst e;rw [show look x.1 (x::r)=some x.2 from aB] at h;cases h;exact⟨ht.1.1,ht.1.2.1,dn ht.1.2.2⟩
  .rw [show look i (x::r)=look i r from ah e] at h;exact Vl.at_ ht.2 i av h
def ZF (ρ:Nat->Nat):List Nat->Bool
 | []=>true| k::r=>r.all (λq=>Nat.beq k q|| !Nat.beq (ρ k) (ρ q)) && ZF ρ r
theorem PS {ρ:Nat->Nat}:∀ {l:List Nat},ZF ρ l=true->∀ k q,k∈l->q∈l->ρ k=ρ q->k=q
 | [],_,k,q,h,_=>by cases h| x::r,h,k,q,hk,hq=>λe=>by
  simp only [ZF,gG,oW,CQ,dP]at h;rcases List.mem_cons.1 hk with hk1|hk1
  .rcases List.mem_cons.1 hq with hq1|hq1;.rw [hk1,hq1]
   .rcases h.1 q hq1 with y|y;all_goals simp_all
  .rcases List.mem_cons.1 hq with hq1|hq1
   .rcases h.1 k hk1 with y|y;all_goals simp_all
   .exact PS h.2 k q hk1 hq1 e
theorem EF {α:Type}:∀ {l:List (Nat×α)} {i:Nat} {x:α},look i l=some x->i∈l.map (·.1)
 | [],i,x,h=>by cases h| y::r,i,x,h=>by
  by_cases e:i=y.1;·subst e;simp
  ·rw [show look i (y::r)=look i r from ah e]at h;have:=EF h;simp_all
def afI (ρ:Nat->Nat)(nk:Nat):Nat->Bool
 | 0=>true| n+1=>Nat.beq (ρ n) n && Nat.blt n nk && afI ρ nk n
theorem ado {ρ:Nat->Nat} {nk:Nat}:∀ {n:Nat},afI ρ nk n=true->n<=nk/\∀ k,k<n->ρ k=k
 | 0,_=>⟨iT _,λk hk=>absurd hk (Yz k)⟩| n+1,h=>by
  simp only [afI,gG]at h;obtain⟨h1,h2⟩:=ado h.2;refine⟨dn h.1.2,λk hk=>?_⟩;grind[dG]
theorem Tr.ren {C:Cx} {σ σ':St} (ρ:Nat->Nat) (ht:TrT σ ρ σ'.nk σ'.t) (hm:Vl σ ρ σ'.nk σ'.M) (hi:(ZF ρ (σ'.M.map (·.1)) && afI ρ σ'.nk C.np)=true):Tr C σ σ':=λG a w ok=>by
 rw [gG] at hi;obtain ⟨hi,hpn⟩:=hi;obtain ⟨hp1,hp2⟩:=ado hpn;refine ⟨G.ren ρ,ok.sz,⟨ok.df.1,hp1,λk hk=>by
  show G.b (ρ k)=_/\G.n (ρ k)=_/\G.h (ρ k)=_;rw [hp2 k hk];exact ok.df.2.2 k hk⟩,λi av h=>?_,ok.bel,ok.fw,ok.f0,ok.f1,λk ob h=>?_,λk o x h1 h2=>?_,?_,?_⟩
 ·obtain ⟨h1,h2⟩:=ht.at_ i av h;exact ⟨(ok.tm i _ h1).1,Gv h2,R.au4 h2 (ok.tm i _ h1).2.2⟩
 ·obtain ⟨h1,h2,h3⟩:=hm.at_ k ob h;obtain ⟨g1,g2,g3⟩:=ok.ob _ _ h1;grind[o8.ren]
 ·exact ok.my _ _ x (hm.at_ k o h1).1 h2
 ·intro k o k' o' x h1 h2 h3 h4;have:=ok.dj _ _ _ _ x (hm.at_ k o h1).1 (hm.at_ k' o' h2).1 h3 h4;exact PS hi k k' (EF h1) (EF h2) this
 ·intro k o x p u h1 h2 h3;exact ok.dF _ _ x p u (hm.at_ k o h1).1 h2 h3
theorem zqt {C:Cx} {σ σ':St} (ρ:Nat -> Nat) (ht:TrT σ ρ σ'.nk σ'.t:=by repeat (first|exact trivial|refine ⟨⟨?_,?_⟩,?_⟩|rfl)) (hm:Vl σ ρ σ'.nk σ'.M:=by repeat (first|exact trivial|refine ⟨⟨?_,?_,?_⟩,?_⟩|rfl)) (hi:(ZF ρ (σ'.M.map (·.1)) && afI ρ σ'.nk C.np) = true:=by rfl):Tr C σ σ':=Tr.ren ρ ht hm hi
theorem ku {C:Cx} {σ σ':St} (ρ:Nat -> Nat) (hm:Vl σ ρ σ'.nk σ'.M) (hi:(ZF ρ (σ'.M.map (·.1)) && afI ρ σ'.nk C.np) = true) (ht:TrT σ ρ σ'.nk σ'.t:=by repeat (first|exact trivial|refine ⟨⟨?_,?_⟩,?_⟩|rfl)):Tr C σ σ':=Tr.ren ρ ht hm hi
def rem {α:Type} (k:Nat):List (Nat×α)->List (Nat×α)
 | []=>[]| x::r=>bif Nat.beq k x.1 then rem k r else x::rem k r
theorem mV {α:Type} (k i:Nat):∀ (l:List (Nat×α)),look i (rem k l)=if i=k then none else look i l
 | []=>by simp [rem,look]| x::r=>by
  have ih:=mV k i r;grind[rem,dG,look]
def St.drop(σ:St)(k:Nat):St:={ σ with M:=rem k σ.M }
def St.src (σ:St)(n:Nat):AV->Option (List (List AV))
 | .ls m rows=>bif Nat.beq m n && Nat.blt 0 m then some rows else none| .sl k =>match look k σ.M with
  | some (.row _ m rows)=>bif Nat.beq m n && Nat.blt 0 m then some rows else none| _=>none
 | _=>none
section
variable {P:Program} {C:Cx} {σ σ':St} {G G':Gh} {a:Act} {w w':World} {o:Oper} {d:Tmp}
theorem Ok.Kt (ok:Ok C σ G a w)(k:Nat):Ok C (σ.drop k) G a w:=by
 have hl:∀ i ob,look i (σ.drop k).M=some ob->i≠k/\look i σ.M=some ob:=λi ob h=>by
  rw [show look i (σ.drop k).M=_ from mV k i σ.M] at h;simp_all
 exact⟨ok.sz,ok.df,ok.tm,ok.bel,ok.fw,ok.f0,ok.f1,λi ob h=>ok.ob i ob (hl i ob h).2,λi o x h=>ok.my i o x (hl i o h).2,λi o i' o' x h h'=>ok.dj i o i' o' x (hl i o h).2 (hl i' o' h').2,λi o x p u h=>ok.dF i o x p u (hl i o h).2⟩
theorem iq {σ:St} {k i:Nat} {ob:AO} (h:look i (σ.drop k).M=some ob):i≠k/\look i σ.M=some ob:=by
 rw [show look i (σ.drop k).M=_ from mV k i σ.M]at h;simp_all
theorem Ok.newObj (ok:Ok C σ G a w) {S:Nat->Prop} {b n:Nat} {h:Value} {φ:Nat->Prop} {ob:AO} (hb:Kept S w w') (hS:∀ x,S x->C.may x) (hw:∀ k o x,look k σ.M=some o->G.fp k x->¬ S x) (hF:∀ p u,G.F p=some u->¬ S p.block)(hob:o8 (G.with σ.nk b n h φ) w' σ.nk ob) (hbd:ob.bd (σ.nk+1)) (hφ:∀ x,φ x->C.may x/\x<w'.heap.size/\(∀ k o,look k σ.M=some o->¬ G.fp k x)/\∀ p u,G.F p=some u->p.block≠x) :Ok C (σ.new ob) (G.with σ.nk b n h φ) a w':=by
 have hle:=G.Ui σ.nk b n h φ;have hfp:=G.adM σ.nk b n h φ;have hbl:∀ p u,G.F p=some u->w'.heap[p.block]?=w.heap[p.block]?:=λp u x=>hb.block _ (aQ (ok.fw p u x)) (hF p u x);have ok1:Ok C σ (G.with σ.nk b n h φ) a w':=ok.world hle hfp hb hS (λk o x h1 h2=>hb.block x (ok.my k o x h1 h2).2 (hw k o x h1 h2)) (λp u x=>(World.cell?_of_block (hbl p u x)).trans (ok.fw p u x)) (λ_ _ x=>.inl x);refine ok1.add hob hbd λx hx=>?_;have e2:(G.with σ.nk b n h φ).fp σ.nk=φ:=if_pos rfl;rw [e2] at hx;refine ⟨(hφ x hx).1,(hφ x hx).2.1,λk o h1=>?_,(hφ x hx).2.2.2⟩;rw [hfp k (ok.ob k o h1).1];simp_all
theorem cO.rd {T n:Nat} {rows:List (List AV)} {v:Value} {φ:Nat->Prop} {X:Nat->Nat->(Nat->Prop)->AV->Value->Prop} (h:cO w T n rows v φ X) :∃ A c,∃ vs:List (List Value),∃ Φ:Nat->Nat->Nat->Prop,v=.slice A vs.length c/\vs.length=rows.length/\Rd w w.heap.size n A vs/\(∀ r∈vs,r.length=n)/\(∀ r∈vs,∀ u∈r,u.oneCell'=true) /\(∀ (i:Nat) r r',rows[i]?=some r->vs[i]?=some r'->r'.length=r.length)/\(∀ i j x,Φ i j x->φ x/\v.ownBlock≠some x)/\(∀ i j i' j' x,Φ i j x->Φ i' j' x->i=i'/\j=j') /\∀ (i:Nat) r r' (j:Nat) av u,rows[i]?=some r->vs[i]?=some r'->r[j]?=some av->r'[j]?=some u->X i j (Φ i j) av u:=by
 obtain ⟨hrl,vs,Φ,h4,h5,h7,hgf,OT,KN,h8,h6⟩:=h;have hvl:∀ r∈vs,r.length=n:=by
  intro r' hr';exact anD
 obtain ⟨A,c,hA,hrd,_,_⟩:=BG h4 hvl rfl rfl;exact ⟨A,c,vs,Φ,hA,h5,hrd,hvl,h7,h8,OT,KN,h6⟩
theorem Ok.aAv (ok:Ok C σ G a w) {n:Nat} {av:AV} {rows:List (List AV)} {v:Value} (hs:σ.src n av=some rows) (r:R G av v) :∃ A c,∃ l:List (List Value),v=.slice A rows.length c/\l.length=rows.length/\Rd w w.heap.size n A l/\(∀ r∈l,r.length=n)/\(∀ r∈l,∀ u∈r,u.oneCell'=true)/\(∀ r∈rows,r.length=n)/\∀ (i:Nat) r r',rows[i]?=some r->l[i]?=some r'->RL G.F r r':=by cases av with
 | ls m rows' =>
  simp only [St.src] at hs;cases hmn:Nat.beq m n && Nat.blt 0 m with
  | true =>
   rw [hmn] at hs;simp only [gG] at hmn;have e:=dG hmn.1;have h0:=dn hmn.2;subst e;cases hs;obtain ⟨A,cap,ad,u,rfl,h1,h2,h3,h4,_⟩:=r.E8.Ce;have key:∀ (i:Nat) r',((List.range rows.length).map λi=>(List.range m).map (u i))[i]?=some r'->∃ hi:i<rows.length,r'=(List.range m).map (u i):=λi r' h=>by
    have hi:i<rows.length:=by simpa using(List.getElem?_eq_some_iff.1 h).1
    simp [hi] at h;exact ⟨hi,h.symm⟩
   refine ⟨A,cap,(List.range rows.length).map λi=>(List.range m).map (u i),rfl,by simp,λhp=>⟨ad,h2 (by simpa using hp),?_,λk r' hr' j x hx=>?_⟩,?_,?_,h1,λi r r' hr hr'=>?_⟩
   .have hp:0<rows.length:=by simpa using hp
    have hr0:rows[0]?=some rows[0]:=aO hp;have hl0:0<(rows[0]'hp).length:=by rw [h1 _ (gB hp)];exact h0
    have:=h3 0 rows[0] 0 (rows[0]'hp)[0] hr0 (aO hl0);have:=aQ (ok.fw _ _ this.1);rwa [lU] at this
   .obtain ⟨hi,rfl⟩:=key k r' hr';have hj:j<m:=by simpa using(List.getElem?_eq_some_iff.1 hx).1
    simp [hj] at hx;have hlen:=h1 _ (gB hi);rw [← hx];exact ok.fw _ _ (h3 k rows[k] j _ (aO hi) (aO (by omega))).1
   .intro r' hr';obtain ⟨q,hq,rfl⟩:=oz hr';simp
   .intro r' hr' x hx;obtain ⟨q,hq,rfl⟩:=oz hr';obtain ⟨hi,e⟩:=key q _ (aO hq);rw [e] at hx;obtain ⟨j,hj,rfl⟩:=List.mem_map.1 hx;have hj:j<m:=by simpa using hj
    have hlen:=h1 _ (gB hi);exact (h3 q rows[q] j _ (aO hi) (aO (by omega))).2
   .obtain ⟨hi,rfl⟩:=key i r' hr';have hlen:=h1 _ (cZ hr);refine ⟨by simp [hlen],λj av x hav hx=>?_⟩;have hj:j<m:=by simpa using(List.getElem?_eq_some_iff.1 hx).1
    simp [hj] at hx;rw [← hx];exact h4 i r j av hr hav| false=>rw [hmn] at hs;cases hs
 | sl k =>
  simp only [St.src] at hs;cases hk:look k σ.M with
  | none=>simp [hk] at hs| some ob =>cases ob with
   | box T cells=>simp [hk] at hs| jO T m rows'=>simp [hk] at hs| JU T m rows' hi hj y=>simp [hk] at hs| rV T m rows' hi hj y=>simp [hk] at hs| vK T e l=>simp [hk] at hs| opq q=>simp [hk] at hs| row T m rows' =>
    simp only [hk] at hs;cases hmn:Nat.beq m n && Nat.blt 0 m with
    | true =>
     rw [hmn] at hs;simp only [gG] at hmn;have e:=dG hmn.1;subst e;cases hs;have hob:=(ok.ob k _ hk).2.2;obtain ⟨hn,hg,hR⟩:=hob;obtain ⟨A,c,vs,Φ,hA,h5,hrd,hvl,h7,h8,_,_,h6⟩:=hR.rd;exact ⟨A,c,vs,by rw [r.lH.1,hA,h5],h5,hrd,hvl,h7,hR.1,λi r r' hr hr'=>⟨h8 i r r' hr hr',λj av u hav hu=>h6 i r r' j av u hr hr' hav hu⟩⟩| false=>rw [hmn] at hs;cases hs
 | _=>cases hs
theorem cO.app {T e n RY:Nat} {z:Value} {i:TypeInfo} {ty:TypeId} {rows fQ:List (List AV)} {v:Value} {φ φ2:Nat->Prop} {Y:World->(Nat->Prop)->AV->Value->Prop} (h:cO w e n rows v φ (λ_ _=>Y w)) (hT:P.underlying T=some (.slice e))(hi:P.info? e=some i) (hz:i.zero=some z) (hn:i.size=n) (hby:i.bytes=RY) (hzs:z.cells.size=n) (h0:0<n) {A:Option Addr} {c:Nat} {l:List (List Value)} {Ψ:Nat->Nat->Nat->Prop}(hrd:Rd w w.heap.size n A l) (hl:l.length=fQ.length) (hll:∀ r∈l,r.length=n) (hl1:∀ r∈l,∀ u∈r,u.oneCell'=true) (hrl2:∀ r∈fQ,r.length=n)(hlen2:∀ (i:Nat) r r',fQ[i]?=some r->l[i]?=some r'->r'.length=r.length) (hΨ:∀ i j x,Ψ i j x->φ2 x) (aua:∀ i j i' j' x,Ψ i j x->Ψ i' j' x->i=i'/\j=j') (hdj:∀ x,φ x->φ2 x->False) (hlt:∀ x,φ x\/φ2 x->x<w.heap.size)(PO:∀ (i:Nat) r r' (j:Nat) av u,fQ[i]?=some r->l[i]?=some r'->r[j]?=some av->r'[j]?=some u->Y w (Ψ i j) av u)(hY:∀ w' ψ av u,(∀ x,ψ x->w'.heap[x]?=w.heap[x]?)->Y w ψ av u->Y w' ψ av u) (hb1:rows.length+fQ.length<=1000000000) (hb2:RY<=100000) :∃ v' w',(Builtin.append_ #[T,T] ty #[v,.slice A l.length c]).run P w=.ok v' w'/\w.grownBy w' v.ownBlock/\(v'.ownBlock=v.ownBlock\/v'.ownBlock=some w.heap.size)/\v'.oneCell'=true /\cO w' e n (rows++fQ) v' (λx=>v'.ownBlock=some x\/φ x\/φ2 x) (λ_ _=>Y w'):=by
 obtain ⟨hrl,vs,Φ,h4,h5,h7,hgf,OT,KN,h8,h6⟩:=h;obtain ⟨v',w',hrun,q1,q2,q3⟩:=CB (P:=P) (A:=A) (l:=l) 0 T ty e i z n RY hT hi hz hn hby hzs h0 v vs.length vs.flatten h4 c hrd hll hl1 (by rw [h5,hl];unfold maxLen;omega) (by rw [h5,hl];exact gX (Uu hb1 hb2) (by decide)) (iT _);have hone:v'.oneCell'=true:=by rcases q1.2 with⟨e,_⟩|⟨g,cap,cur,e,_⟩<;>rw [e]<;>rfl
 have hno:∀ i j x,Φ i j x->some x≠v'.ownBlock:=λi j x hx e=>by
  have:=hlt x (.inl (OT i j x hx).1);rcases q3 with q|q;.exact (OT i j x hx).2 (q.symm.trans e.symm)
  .rw [q] at e;cases e;omega
 have VT:∀ i j x,Ψ i j x->some x≠v'.ownBlock:=λi j x hx e=>by
  have:=hlt x (.inr (hΨ i j x hx));rcases q3 with q|q;.exact hdj x (hgf x (q.symm.trans e.symm)) (hΨ i j x hx)
  .rw [q] at e;cases e;omega
 refine ⟨v',w',hrun,q2,q3,hone,λr hr=>(List.mem_append.1 hr).elim (hrl r) (hrl2 r),vs++l,λi j x=>if i<rows.length then Φ i j x else Ψ (i-rows.length) j x,?_,by rw [dS,dS,h5,hl],λr hr=>(List.mem_append.1 hr).elim (h7 r) (hl1 r),λg hg=>.inl hg,λi j x hx=>?_,λi j i' j' x h1 h2=>?_,λj r r' hr hr'=>?_,λj r r' s av u hr hr' hs hu=>?_⟩;.rw [dS,List.flatten_append];exact q1
 .have hx:if i<rows.length then Φ i j x else Ψ (i-rows.length) j x:=hx;by_cases hi:i<rows.length
  .rw [if_pos hi] at hx;exact ⟨.inr (.inl (OT i j x hx).1),λe=>hno i j x hx e.symm⟩
  .rw [if_neg hi] at hx;exact ⟨.inr (.inr (hΨ _ j x hx)),λe=>VT _ j x hx e.symm⟩
 .have h1:if i<rows.length then Φ i j x else Ψ (i-rows.length) j x:=h1;have h2:if i'<rows.length then Φ i' j' x else Ψ (i'-rows.length) j' x:=h2;by_cases hi:i<rows.length<;>by_cases hi':i'<rows.length;.rw [if_pos hi] at h1;rw [if_pos hi'] at h2;exact KN i j i' j' x h1 h2
  .rw [if_pos hi] at h1;rw [if_neg hi'] at h2;exact (hdj x (OT i j x h1).1 (hΨ _ j' x h2)).elim
  .rw [if_neg hi] at h1;rw [if_pos hi'] at h2;exact (hdj x (OT i' j' x h2).1 (hΨ _ j x h1)).elim
  .rw [if_neg hi] at h1;rw [if_neg hi'] at h2;obtain ⟨e1,e2⟩:=aua _ j _ j' x h1 h2;exact ⟨by omega,e2⟩
 .by_cases hj:j<rows.length
  .rw [xY hj] at hr;rw [xY (by omega)] at hr';exact h8 j r r' hr hr'
  .rw [wC (by omega)] at hr;rw [wC (by omega),h5] at hr';exact hlen2 _ r r' hr hr'
 .have go:∀ ψ:Nat->Prop,(∀ x,ψ x->x<w.heap.size/\some x≠v.ownBlock)->Y w ψ av u->Y w' ψ av u:=λψ ZC y=>hY w' ψ av u (λx hx=>q2.block x (ZC x hx).1 (ZC x hx).2) y;by_cases hj:j<rows.length
  .rw [xY hj] at hr;rw [xY (by omega)] at hr';have e:(λx=>if j<rows.length then Φ j s x else Ψ (j-rows.length) s x)=Φ j s:=by funext x;rw [if_pos hj]
   show Y w' (λx=>if j<rows.length then Φ j s x else Ψ (j-rows.length) s x) av u;rw [e];exact go _ (λx hx=>⟨hlt x (.inl (OT _ _ x hx).1),λe=>(OT _ _ x hx).2 e.symm⟩) (h6 j r r' s av u hr hr' hs hu)
  .rw [wC (by omega)] at hr;rw [wC (by omega),h5] at hr';have e:(λx=>if j<rows.length then Φ j s x else Ψ (j-rows.length) s x)=Ψ (j-rows.length) s:=by funext x;rw [if_neg hj]
   show Y w' (λx=>if j<rows.length then Φ j s x else Ψ (j-rows.length) s x) av u;rw [e];exact go _ (λx hx=>⟨hlt x (.inr (hΨ _ _ x hx)),λe=>hdj x (hgf x e.symm) (hΨ _ _ x hx)⟩) (PO _ r r' s av u hr hr' hs hu)
theorem Jc {x y:Operand} {T:TypeId} {A:Option Addr} {len c:Nat} {v v':Value} {N:Act->World->Prop} {Q':Exit->Act->World->Prop} (ho:o.op=.call { callee:=.builtin .append,args:=#[x,y],argTypes:=#[T,T] })(ex:a.eval x=v)(ey:a.eval y=.slice A len c)(hrun:(Builtin.append_ #[T,T] o.type #[v,.slice A len c]).run P w=.ok v' w')(hN:N (a.put o.dst v') w'):o.wp P a w N Q':=by simp_all[Oper.wp,execOp,resolve,invoke,builtin,Oper.upon]
theorem Ok.joined (ok:Ok C σ G a w) {k:Nat} {ob ob':AO} {n:Nat} {v v':Value} {φ2:Nat->Prop} {gone:List Nat} {σd:St} (okd:Ok C σd G a w) (hd:∀ i o,look i σd.M=some o->i≠k/\look i σ.M=some o/\¬ i∈gone) (hnk:σd.nk=σ.nk)(hk:look k σ.M=some ob) (hv:∀ x,v.ownBlock=some x->G.fp k x) (aCh:∀ x,φ2 x->∃ q o,q∈gone/\look q σ.M=some o/\G.fp q x)(hg:w.grownBy w' v.ownBlock) (hv':v'.ownBlock=v.ownBlock\/v'.ownBlock=some w.heap.size) (hvs:∀ x,v'.ownBlock=some x->x<w'.heap.size)(hob:o8 (G.with σd.nk (v'.ownBlock.getD 0) n v' (λx=>v'.ownBlock=some x\/G.fp k x\/φ2 x)) w' σd.nk ob') (hbd:ob'.bd (σd.nk+1)) :Ok C (σd.new ob') (G.with σd.nk (v'.ownBlock.getD 0) n v' (λx=>v'.ownBlock=some x\/G.fp k x\/φ2 x)) a w':=by
 refine okd.newObj (S:=λx=>v.ownBlock=some x) ⟨hg.os,hg.tape,hg.output,hg.size,λx h1 h2=>hg.block x h1 λe=>h2 e.symm⟩ (λx hx=>(ok.my k _ x hk (hv x hx)).1) (λi o x h1 h2 h3=>(hd i o h1).1 (ok.dj i o k ob x (hd i o h1).2.1 hk h2 (hv x h3))) (λp u h1 h2=>ok.dF k ob _ p u hk (hv _ h2) h1 rfl) hob hbd λx hx=>?_;have old:∀ q o x,look q σ.M=some o->G.fp q x->(q=k\/q∈gone)->C.may x/\x<w'.heap.size/\(∀ i o,look i σd.M=some o->¬ G.fp i x)/\∀ p u,G.F p=some u->p.block≠x:=λq o x h1 h2 h3 =>⟨(ok.my q o x h1 h2).1,oD (ok.my q o x h1 h2).2 hg.size,λi oi hi h4=>by
   obtain ⟨d1,d2,d3⟩:=hd i oi hi;have:=ok.dj i oi q o x d2 h1 h4 h2;simp_all,λp u=>ok.dF q o x p u h1 h2⟩;rcases hx with hx|hx|hx
 .rcases hv' with e|e;.grind
  .have hxx:x=w.heap.size:=by rw [e] at hx;exact (Option.some.inj hx).symm
   refine ⟨.inl (by rw [hxx];exact ok.bel.size),hvs x hx,λi o h1 h2=>?_,λp u h1 h2=>?_⟩;.have:=(ok.my i o x (hd i o h1).2.1 h2).2;omega
   .have:=aQ (ok.fw p u h1);omega
 all_goals grind
theorem cO.lt {T n:Nat} {rows:List (List AV)} {v:Value} {φ:Nat->Prop} {X:Nat->Nat->(Nat->Prop)->AV->Value->Prop} (h:cO w T n rows v φ X):∀ x,v.ownBlock=some x->x<w.heap.size:=λx hx=>by
 obtain⟨_,vs,Φ,h4,_⟩:=h;rcases h4.2 with⟨e,_⟩|⟨g,cap,cur,e,_,hh,_⟩;.rw [e]at hx;cases hx
 .rw [e]at hx;obtain rfl:g=x:=Option.some.inj hx;grind
theorem cO.fp {T n:Nat} {rows:List (List AV)} {v:Value} {φ:Nat->Prop} {X:Nat->Nat->(Nat->Prop)->AV->Value->Prop} (h:cO w T n rows v φ X):∀ x,v.ownBlock=some x->φ x:=by
 obtain⟨_,vs,Φ,h4,_,_,h7,_⟩:=h;exact h7
theorem fB {G:Gh} {k b n:Nat} {v:Value} {φ:Nat->Prop}:(G.with k b n v φ).h k=v:=if_pos rfl
theorem su {G:Gh} {k b n:Nat} {v:Value} {φ:Nat->Prop}:(G.with k b n v φ).b k=b:=if_pos rfl
theorem uZ {G:Gh} {k b n:Nat} {v:Value} {φ:Nat->Prop}:(G.with k b n v φ).n k=n:=if_pos rfl
theorem tY {G:Gh} {k b n:Nat} {v:Value} {φ:Nat->Prop} (h:v.oneCell'=true):R (G.with k b n v φ) (.sl k) v:=by
 have:=R.sl (G:=G.with k b n v φ) k (by rw [fB];exact h);rwa [fB] at this
theorem qH {G:Gh} {k b n:Nat} {v:Value} {φ:Nat->Prop}:(G.with k b n v φ).fp k=φ:=if_pos rfl
theorem WO.append {T e n RY k m:Nat} {z:Value} {i:TypeInfo} {x y:Operand} {rows fQ rows':List (List AV)} {av2:AV} (ho:o.op=.call { callee:=.builtin .append,args:=#[x,y],argTypes:=#[T,T] }) (hT:P.underlying T=some (.slice e))(hi:P.info? e=some i) (hz:i.zero=some z) (hn:i.size=n) (hby:i.bytes=RY) (hzs:z.cells.size=n) (h0:Nat.blt 0 n=true) (hds:o.dst=some d) (hd:Nat.blt d C.N=true)(hx:σ.ev x=some (.sl k)) (hk:look k σ.M=some (.row e n rows)) (hy:σ.ev y=some av2) (hs:σ.src n av2=some fQ) (hm:σ.nk=m) (hb1:rows.length+fQ.length<=1000000000) (hb2:Nat.ble RY 100000=true) (hrr:rows++fQ=rows') :WO P C o σ (((σ.drop k).new (.row e n rows')).put d (.sl m)):=by
 intro G a w ok N Q' hN;obtain ⟨A,c,l,ey,hl,hrd,hll,hl1,hrl2,PO⟩:=ok.aAv hs (ok.l9 hy).2;obtain ⟨hn',hg,hR⟩:=(ok.ob k _ hk).2.2;obtain ⟨v',w',hrun,q2,q3,hone,hR'⟩:=cO.app (P:=P) (ty:=o.type) (c:=c) (Y:=λ_ _ av u=>RP G.F av u) (φ2:=λ_=>False) (Ψ:=λ_ _ _=>False) hR hT hi hz hn hby hzs (dn h0) hrd hl hll hl1 hrl2 (λi r r' a b=>(PO i r r' a b).1) (λ_ _ _ h=>h) (λ_ _ _ _ _ h=>h.elim) (λ_ _ h=>h) (λx hx=>hx.elim (λh=>(ok.my k _ x hk h).2) False.elim) (λi r r' j av u a b c d=>(PO i r r' a b).2 j av u c d) (λ_ _ _ _ _ h=>h) hb1 (bG hb2);rw [← hl] at ey;have ok':=ok.joined (gone:=[]) (n:=n) (v':=v') (φ2:=λ_=>False) (ob':=.row e n rows') (okd:=ok.Kt k) (λi o h=>⟨(iq h).1,(iq h).2,by simp⟩) rfl hk hR.fp (λx h=>h.elim) q2 q3 hR'.lt ⟨uZ,(λg hg=>by simp_all[fB,su]),by rw [fB,qH,← hrr];exact hR'⟩ trivial;refine Jc ho (ok.l9 hx).2.lH.1 ey hrun ?_;rw [hds];subst hm;exact hN _ _ _ (ok'.set (d:=some d) (av:=.sl σ.nk) (v:=v') (by have:=R.sl (G:=G.with σ.nk (v'.ownBlock.getD 0) n v' (λx=>v'.ownBlock=some x\/G.fp k x\/False)) σ.nk (by simp_all[fB]);rw [fB] at this;exact this) (.sl _ (vw _)) λx hx=>by simp_all)
theorem WO.acj {T e n RY k q m:Nat} {z:Value} {i:TypeInfo} {x y:Operand} {rows fQ rows':List (List AV)} {e2:TypeId} (ho:o.op=.call { callee:=.builtin .append,args:=#[x,y],argTypes:=#[T,T] }) (hT:P.underlying T=some (.slice e))(hi:P.info? e=some i) (hz:i.zero=some z) (hn:i.size=n) (hby:i.bytes=RY) (hzs:z.cells.size=n) (h0:Nat.blt 0 n=true) (hds:o.dst=some d) (hd:Nat.blt d C.N=true)(hx:σ.ev x=some (.sl k)) (hk:look k σ.M=some (.jO e n rows)) (hy:σ.ev y=some (.sl q)) (hq:look q σ.M=some (.jO e2 n fQ)) (hkq:Nat.beq k q=false) (hm:σ.nk=m) (hb1:rows.length+fQ.length<=1000000000) (hb2:Nat.ble RY 100000=true) (hrr:rows++fQ=rows') :WO P C o σ ((((σ.drop k).drop q).new (.jO e n rows')).put d (.sl m)):=by
 intro G a w ok N Q' hN;have azK:k≠q:=λe=>by simp_all
 obtain ⟨hn',hg,hR⟩:=(ok.ob k _ hk).2.2;obtain ⟨hn2,hg2,hR2⟩:=(ok.ob q _ hq).2.2;obtain ⟨A,c,l,Ψ,hA,hl,hrd,hll,hl1,hlen,hΨ,aua,PO⟩:=hR2.rd;have ey:a.eval y=.slice A l.length c:=(ok.l9 hy).2.lH.1.trans hA;obtain ⟨v',w',hrun,q2,q3,hone,hR'⟩:=cO.app (P:=P) (ty:=o.type) (c:=c) (Y:=λw ψ av u=>OW G.F w av u ψ) (φ2:=G.fp q) (Ψ:=Ψ) hR hT hi hz hn hby hzs (dn h0) hrd hl hll hl1 hR2.1 hlen (λi j x h=>(hΨ i j x h).1) aua (λx h1 h2=>azK (ok.dj k _ q _ x hk hq h1 h2)) (λx hx=>hx.elim (λh=>(ok.my k _ x hk h).2) λh=>(ok.my q _ x hq h).2) PO (λ_ _ _ _ hw h=>h.keep (λ_ _ h=>h) hw) hb1 (bG hb2);have ok':=ok.joined (gone:=[q]) (n:=n) (v':=v') (φ2:=G.fp q) (ob':=.jO e n rows') (okd:=(ok.Kt k).Kt q) (λi o h=>⟨(iq (iq h).2).1,(iq (iq h).2).2,by grind[iq]⟩) rfl hk hR.fp (λx h=>⟨q,_,by simp,hq,h⟩) q2 q3 hR'.lt ⟨uZ,(λg hg=>by grind[fB,su]),by rw [fB,qH,← hrr];exact hR'⟩ trivial;refine Jc ho (ok.l9 hx).2.lH.1 ey hrun ?_;rw [hds];subst hm;exact hN _ _ _ (ok'.set (d:=some d) (av:=.sl σ.nk) (v:=v') (by have:=R.sl (G:=G.with σ.nk (v'.ownBlock.getD 0) n v' (λx=>v'.ownBlock=some x\/G.fp k x\/G.fp q x)) σ.nk (by rw [fB];exact hone);rw [fB] at this;exact this) (.sl _ (vw _)) λx hx=>by cases hx;exact dn hd)
theorem Ok.nilRow (ok:Ok C σ G a w) (T:TypeId) (n:Nat):∃ G',Ok C (σ.new (.row T n [])) G' a w/\R G' (.sl σ.nk) (.slice none 0 0) :=⟨_,ok.newObj (S:=λ_=>False) (b:=0) (n:=n) (h:=.slice none 0 0) (φ:=λ_=>False) (ob:=.row T n []) (Kept.refl _ w) (λ_ h=>h.elim) (λ_ _ _ _ _ h=>h) (λ_ _ _ h=>h) ⟨uZ,(λg hg=>by rw [fB] at hg;cases hg),by
   rw [fB,qH];exact ⟨by simp,[],λ_ _ _=>False,⟨by simp,.inl ⟨rfl,rfl⟩⟩,rfl,by simp,(λg hg=>by cases hg),λ_ _ _ h=>h.elim,λ_ _ _ _ _ h=>h.elim,λi r r' h=>by simp at h,λi r r' j av u h=>by simp at h⟩⟩ trivial (λx h=>h.elim),tY rfl⟩
theorem Ok.aaN (ok:Ok C σ G a w) {t:Tmp} {av Vf:AV} (h:look t σ.t=some av)(hb:Bd σ.nk Vf)(hr:∀ v,R G av v->R G Vf v):Ok C (σ.put t Vf) G a w:=by
 have h1:=ok.tm t _ h;refine⟨ok.sz,ok.df,λi x hx=>?_,ok.bel,ok.fw,ok.f0,ok.f1,ok.ob,ok.my,ok.dj,ok.dF⟩;by_cases e:i=t;.simp_all[St.put,aB]
 .rw [show look i (St.put σ t Vf).t=look i σ.t from ah e] at hx;exact ok.tm i x hx
theorem Ok.aaM (ok:Ok C σ G a w) {k:Nat} {ob ob':AO} (hk:look k σ.M=some ob)(h:k<σ.nk/\ob'.bd σ.nk/\o8 G w k ob'):Ok C (σ.upd k ob') G a w:=by
 have hl:∀ k' o,look k' (σ.upd k ob').M=some o->(k'=k/\o=ob')\/look k' σ.M=some o:=λk' o hx=>by
  by_cases e:k'=k
  .subst e;rw [show look k' (σ.upd k' ob').M=some ob' from aB] at hx;simp_all
  .rw [show look k' (σ.upd k ob').M=look k' σ.M from ah e] at hx;exact .inr hx
 have some_:∀ k' o,look k' (σ.upd k ob').M=some o->∃ o',look k' σ.M=some o':=λk' o h=>by grind
 refine⟨ok.sz,ok.df,ok.tm,ok.bel,ok.fw,ok.f0,ok.f1,λk' o h'=>?_,λk' o x h1 h2=>?_,λk1 o1 k2 o2 x h1 h2=>?_,λk1 o1 x p u h1=>?_⟩
 .rcases hl k' o h' with⟨rfl,rfl⟩|y;.exact h
  .exact ok.ob k' o y
 .obtain⟨o',y⟩:=some_ k' o h1;exact ok.my k' o' x y h2
 .obtain⟨o1',y1⟩:=some_ k1 o1 h1;obtain⟨o2',y2⟩:=some_ k2 o2 h2;exact ok.dj k1 o1' k2 o2' x y1 y2
 .obtain⟨o1',y1⟩:=some_ k1 o1 h1;exact ok.dF k1 o1' x p u y1
theorem Tr.nil {t:Tmp} {m:Nat} (T:TypeId)(n:Nat)(h:look t σ.t=some (.sc (.slice none 0 0)))(hm:σ.nk=m):Tr C σ ((σ.new (.row T n [])).put t (.sl m)):=λG a w ok=>by
 obtain⟨G',ok',hsl⟩:=ok.nilRow T n;subst hm;exact⟨G',ok'.aaN (av:=.sc (.slice none 0 0)) h (.sl _ (vw _)) λv hv=>by rw [hv.fM];exact hsl⟩
theorem Tr.widen (k:Nat) {T n:Nat} {rows:List (List AV)} (hk:look k σ.M=some (.row T n rows)):Tr C σ (σ.upd k (.jO T n rows)):=λG a w ok=>by
 obtain ⟨g1,g2,g3,g4,g5⟩:=ok.ob k _ hk;exact ⟨G,ok.aaM hk ⟨g1,trivial,g3,g4,g5.keep (λ_ _=>rfl) λi r j av ψ u _ _ _ x=>.pu _ _ _ x⟩⟩
end
def AV.aeL (k n:Nat)(rows:List (List AV)):AV->AV
 | .sl q=>bif Nat.beq q k then .ls n rows else .sl q| av=>av
def AV.VN (k n:Nat)(rows:List (List AV)):AV->AV
 | .fn f l=>.fn f (l.map (AV.aeL k n rows))| av=>av.aeL k n rows
def AV.aox (k n:Nat)(rows:List (List AV)):AV->AV
 | .ag l=>.ag (l.map (AV.VN k n rows))| av=>av.VN k n rows
def AV.frz (k n:Nat)(rows:List (List AV)):AV->AV
 | .tu l=>.tu (l.map (AV.aox k n rows))| av=>av.aox k n rows
def AO.frz (k n:Nat)(rows:List (List AV)):AO->AO
 | .box T cells=>.box T (cells.map (AV.VN k n rows))| .JU T m rs hi hj x=>.JU T m rs hi hj (x.VN k n rows)| .rV T m rs hi hj x=>.rV T m rs hi hj (x.VN k n rows)| ob=>ob
def ao9 {α β:Type} (f:α->β):List (Nat×α)->List (Nat×β)
 | []=>[]| x::r=>(x.1,f x.2)::ao9 f r
theorem Gz {α β:Type} (f:α->β)(i:Nat):∀ (l:List (Nat×α)),look i (ao9 f l)=(look i l).map f
 | []=>rfl| x::r=>by
  by_cases e:i=x.1
  .subst e;rw [show look x.1 (x::r)=some x.2 from aB];exact aB
  .rw [show look i (x::r)=look i r from ah e,← Gz f i r];exact ah e
def St.freeze (σ:St) (k n:Nat) (rows:List (List AV)):St:=⟨ao9 (AV.frz k n rows) σ.t,ao9 (AO.frz k n rows) (rem k σ.M),σ.nk⟩
def AV.fz:Nat->AV->AV
 | d+1,.ow _ n rows=>.ls n (rows.map λr=>r.map (AV.fz d))| _,av=>av
def AV.X3:Nat->AV->Bool
 | 0,.ow _ _ _=>false| d+1,.ow _ _ rows=>rows.all λr=>r.all (AV.X3 d)| _,_=>true
section
variable {P:Program} {C:Cx} {σ σ':St} {G G':Gh} {a:Act} {w w':World} {o:Oper} {d:Tmp}
theorem ZL {Q:AV->AV} {l:List AV} {cs:Array Value} (h1:cs.size=l.length)(h2:∀ (i:Nat) av u,l[i]?=some av->cs[i]?=some u->R G av u)(hq:∀ av u,R G av u->R G (Q av) u) :cs.size=(l.map Q).length/\∀ (i:Nat) av u,(l.map Q)[i]?=some av->cs[i]?=some u->R G av u:=by grind
theorem JQ {Q:AV->AV} {nk:Nat} {l:List AV} (h:∀ (i:Nat)x,l[i]?=some x->Bd nk x)(hq:∀ av,Bd nk av->Bd nk (Q av)):∀ (i:Nat)x,(l.map Q)[i]?=some x->Bd nk x:=λi x hx=>by grind
section
variable {k n nk:Nat} {rows:List (List AV)} {av:AV} {v:Value}
theorem SC (h:R G (.ls n rows) (G.h k)) (r:R G av v):R G (av.aeL k n rows) v:=by cases av with
 | sl q =>
  simp only [AV.aeL];cases e:Nat.beq q k with
  | true=>obtain rfl:=dG e;rw [r.lH.1];exact h| false=>exact r
 | _=>exact r
theorem JL (b:Bd nk av):Bd nk (av.aeL k n rows):=by cases av with
 | sl q =>
  simp only [AV.aeL];cases e:Nat.beq q k with
  | true=>exact .ls _ _| false=>exact b
 | _=>exact b
theorem Dj (h:R G (.ls n rows) (G.h k)) (r:R G av v):R G (av.VN k n rows) v:=by cases av with
 | fn f l =>
  obtain ⟨cs,rfl,h1,h2⟩:=r.Cb;obtain ⟨q1,q2⟩:=ZL h1 h2 λ_ _=>SC h;exact .fn f _ cs q1 q2| sl q=>exact SC (av:=.sl q) h r| _=>exact r
theorem Bl (b:Bd nk av):Bd nk (av.VN k n rows):=by cases av with
 | fn f l=>cases b with|fn _ _ hb=>exact .fn f _ (JQ hb λ_=>JL)
 | sl q=>exact JL (av:=.sl q) b| _=>exact b
theorem ahJ (h:R G (.ls n rows) (G.h k)) (r:R G av v):R G (av.aox k n rows) v:=by cases av with
 | ag l =>
  obtain ⟨cs,rfl,h1,h2⟩:=r.Ed;obtain ⟨q1,q2⟩:=ZL h1 h2 λ_ _=>Dj h;exact .ag _ cs q1 q2| fn f l=>exact Dj (av:=.fn f l) h r| sl q=>exact SC (av:=.sl q) h r| _=>exact r
theorem acK (b:Bd nk av):Bd nk (av.aox k n rows):=by cases av with
 | ag l=>cases b with|ag _ hb=>exact .ag _ (JQ hb λ_=>Bl)
 | fn f l=>exact Bl (av:=.fn f l) b| sl q=>exact JL (av:=.sl q) b| _=>exact b
theorem awC (h:R G (.ls n rows) (G.h k)) (r:R G av v):R G (av.frz k n rows) v:=by cases av with
 | tu l =>
  obtain ⟨cs,rfl,h1,h2⟩:=r.Ym;obtain ⟨q1,q2⟩:=ZL h1 h2 λ_ _=>ahJ h;exact .tu _ cs q1 q2| ag l=>exact ahJ (av:=.ag l) h r| fn f l=>exact Dj (av:=.fn f l) h r| sl q=>exact SC (av:=.sl q) h r| _=>exact r
theorem atq (b:Bd nk av):Bd nk (av.frz k n rows):=by cases av with
 | tu l=>cases b with|tu _ hb=>exact .tu _ (JQ hb λ_=>acK)
 | ag l=>exact acK (av:=.ag l) b| fn f l=>exact Bl (av:=.fn f l) b| sl q=>exact JL (av:=.sl q) b| _=>exact b
theorem atp {φ:Nat->Prop} (h:R G (.ls n rows) (G.h k)) (r:CR G w φ av v):CR G w φ (av.VN k n rows) v:=by
 rcases r with r|o;.exact .inl (Dj h r)
 .by_cases ho:av.own=true;.exact abP
  .exact .inl (Dj h (.pu _ _ (OW.p o (by simpa using ho))))
end
theorem cO.fix {T n:Nat} {rows:List (List AV)} {v:Value} {φ:Nat->Prop} {X:Nat->Nat->(Nat->Prop)->AV->Value->Prop} {F':View} (f:AV->AV) (h:cO w T n rows v φ X) (hF:∀ p,φ p.block->F' p=w.cell? p)(hX:∀ (i:Nat) r (j:Nat) av u ψ,rows[i]?=some r->r[j]?=some av->(∀ x,ψ x->φ x)->X i j ψ av u->RP F' (f av) u):RP F' (.ls n (rows.map λr=>r.map f)) v:=by
  have hfp:=h.2;obtain ⟨vs0,_,_,_,_,hgf,_⟩:=hfp;obtain ⟨A,c,vs,Φ,hA,h5,hrd,hvl,h7,h8,OT,_,h6⟩:=h.rd;have hrl:=h.1;have h4:=h.2;obtain ⟨vs1,Φ1,h4,h51,_⟩:=h4;have hcap:rows.length<=c:=by
    rcases h4.2 with⟨e,e2⟩|⟨g,cap,cur,e,_,_,hnc,_⟩;all_goals grind
  have hgA:∀ ad,A=some ad->φ ad.block:=λad e=>by
    rcases h4.2 with⟨e1,e2⟩|⟨g,cap,cur,e1,_⟩;· grind
    · rw [e1,e] at hA;injection hA with hA _ _;cases hA;exact hgf g (by rw [e1];rfl)
  have hv:v=.slice A (rows.map λr=>r.map f).length c:=by grind
  rw [hv];by_cases hp:0<rows.length
  · obtain ⟨ad,had,_⟩:=hrd au;refine .ls n _ A c ad (λi j=>((vs.getD i []).getD j undef)) (by simpa using hcap) (λr hr=>?_) (λ_=>had) (λi r j av hr hav=>?_) (λi r j av hr hav=>?_)
    · obtain ⟨r',hr',rfl⟩:=List.mem_map.1 hr;rw [bK];exact hrl _ hr'
    all_goals
      rw [dw] at hr;cases hr0:rows[i]? with
      | none=>simp [hr0] at hr| some r0 =>
        simp only [hr0,oG,Option.some.injEq] at hr;subst hr;rw [dw] at hav;cases ahT:r0[j]? with
        | none=>simp [ahT] at hav| some av0 =>
          simp only [ahT,oG,Option.some.injEq] at hav;subst hav;have hi:i<rows.length:=(List.getElem?_eq_some_iff.1 hr0).1;have hv:vs[i]?=some vs[i]:=aO (by omega);have e1:=h8 i r0 _ hr0 hv;have hj:j<vs[i].length:=by rw [e1];exact (List.getElem?_eq_some_iff.1 ahT).1
          have hu:(vs.getD i []).getD j undef=vs[i][j]:=by simp [List.getD,hv,hj]
          simp only [hu];first
            | (refine ⟨?_,h7 _ (gB _) _ (gB _)⟩;obtain ⟨ad',awS,_,hc⟩:=Rd.at_ (k:=i) hrd au;obtain rfl:ad'=ad:=by rw [had] at awS;exact (Option.some.inj awS).symm
               rw [hF _ (by rw [lU];exact hgA _ had)];exact hc j _ (aO hj))|exact hX i r0 j av0 _ _ hr0 ahT (λx hx=>(OT i j x hx).1) (h6 i r0 _ j av0 _ hr0 hv ahT (aO hj))
  · have h0:rows=[]:=sN au;subst h0;exact .ls n [] A c ⟨0,0,none⟩ (λ_ _=>undef) (by simp) (by simp) (λh=>absurd h (by simp)) (λi r j av h=>by simp at h) (λi r j av h=>by simp at h)
theorem awD {d:Nat} {av:AV} (h:av.own=false):av.fz d=av:=by cases d<;>cases av<;>first|rfl|cases h
theorem OW.fix {F F':View} (hle:F.le F'):∀ (d:Nat) {av:AV} {v:Value} {φ:Nat->Prop},OW F w av v φ->(∀ p,φ p.block->F' p=w.cell? p)->av.X3 d=true->RP F' (av.fz d) v
 | d,av,v,φ,h,hF,hs=>by
  by_cases ho:av.own=true;.cases av with
   | ow T n rows =>cases d with
    | zero=>cases hs| succ d =>
     refine cO.fix (AV.fz d) h.row hF λi r j av u ψ hr hav ZC x=>?_;have h1:(rows.all λr=>r.all (AV.X3 d))=true:=hs;have h2:=List.all_eq_true.1 (List.all_eq_true.1 h1 r (cZ hr)) av (cZ hav);exact OW.fix hle d x (λp hp=>hF p (ZC _ hp)) h2
   | _=>cases ho
  .rw [awD (by simpa using ho)];exact (h.p (by simpa using ho)).mono hle
theorem Tr.aow (k:Nat) {n:Nat} {rows':List (List AV)} {ob:AO} (hk:look k σ.M=some ob) (hls:∀ G w (F':View),o8 G w k ob->G.F.le F'->(∀ p,G.fp k p.block->F' p=w.cell? p)->RP F' (.ls n rows') (G.h k)):Tr C σ (σ.freeze k n rows'):=λG a w ok=>by
 obtain ⟨hkn,_,hob⟩:=ok.ob k _ hk;classical
 let F':View:=λp=>if G.fp k p.block then w.cell? p else G.F p;have hF:G.F.le F':=λp u h=>by
  show (if _ then _ else _)=_;rw [if_neg (λe=>ok.dF k _ p.block p u hk e h rfl)];exact h
 have hFn:∀ p u,F' p=some u->G.F p=some u\/(G.fp k p.block/\w.cell? p=some u):=λp u h=>by grind
 have hls:=hls G w F' hob hF (λp hp=>if_pos hp);have hle:G.le { G with F:=F' } σ.nk:=⟨hF,λ_ _=>rfl,λ_ _=>rfl,λ_ _=>rfl⟩;have aw4:R { G with F:=F' } (.ls n rows') (({ G with F:=F' }:Gh).h k):=.pu _ _ hls;have hl:∀ i ob,look i (σ.freeze k n rows').M=some ob->∃ ob0,i≠k/\look i σ.M=some ob0/\ob=ob0.frz k n rows':=λi ob h=>by
  rw [show look i (σ.freeze k n rows').M=_ from Gz _ i _,mV] at h;by_cases e:i=k;.simp_all
  .rw [if_neg e] at h;cases hq:look i σ.M<;>simp_all
 refine ⟨{ G with F:=F' },ok.sz,ok.df,λi av h=>?_,ok.bel,λp u h=>?_,λp u h=>hF p u (ok.f0 p u h),λp u h=>?_,λi ob h=>?_,λi o x h1 h2=>?_,?_,?_⟩
 .rw [show look i (σ.freeze k n rows').t=_ from Gz _ i _] at h;cases hq:look i σ.t with
  | none=>simp [hq] at h| some av0 =>
   simp [hq] at h;obtain ⟨h1,h2,h3⟩:=ok.tm i av0 hq;rw [← h];exact ⟨h1,atq h2,awC aw4 (h3.mono hle h2)⟩
 .exact amq
 .rcases hFn p u h with h|⟨h,_⟩;.exact ok.f1 p u h
  .exact .inr (ok.my k _ _ hk h).1
 .obtain ⟨ob0,e,h0,rfl⟩:=hl i ob h;obtain ⟨g1,g2,g3⟩:=ok.ob i ob0 h0;have g4:=g3.keep (w':=w) (G':={ G with F:=F' }) hle g1 g2 rfl (λ_ _=>rfl);refine ⟨g1,?_,?_⟩;.cases ob0 with
   | box T cells=>exact JQ g2 λ_=>Bl| JU T m rs hi hj y=>exact Bl g2| rV T m rs hi hj y=>exact Bl g2| _=>exact g2
  .cases ob0 with
   | box T cells =>
    obtain ⟨b1,cs,Φ,b2,b3,b4,b5,b6⟩:=g4;refine ⟨b1,cs,Φ,b2,by simpa using b3,b4,b5,λj av u x y=>?_⟩;grind[atp]| JU T m rs hi hj y =>
    obtain ⟨c1,c2,c3⟩:=g4;refine ⟨c1,c2,c3.keep (λ_ _=>rfl) λi r j av ψ u _ _ _ x=>?_⟩;grind[XH,Dj]| rV T m rs hi hj y =>
    obtain ⟨c1,c2,c3⟩:=g4;refine ⟨c1,c2,c3.keep (λ_ _=>rfl) λi r j av ψ u _ _ _ x=>?_⟩;unfold XQ at x ⊢;by_cases e:i=hi/\j=hj
    .rw [if_pos e] at x ⊢;exact Dj aw4 x
    exact abQ| _=>exact g4
 .obtain ⟨ob0,e,h0,rfl⟩:=hl i o h1;exact ok.my i ob0 x h0 h2
 .intro i o i' o' x h1 h2 h3 h4;obtain ⟨ob0,e,h0,rfl⟩:=hl i o h1;obtain ⟨aAh,e',h0',rfl⟩:=hl i' o' h2;exact ok.dj i ob0 i' aAh x h0 h0' h3 h4
 .intro i o x p u h1 h2 h3;obtain ⟨ob0,e,h0,rfl⟩:=hl i o h1;rcases hFn p u h3 with h|⟨h,_⟩;.exact ok.dF i ob0 x p u h0 h2 h
  .intro e2;exact e (ok.dj i ob0 k _ x h0 hk h2 (by rw [← e2];exact h))
theorem Tr.freeze (k:Nat) {T n:Nat} {rows:List (List AV)} (hk:look k σ.M=some (.row T n rows)):Tr C σ (σ.freeze k n rows) :=Tr.aow k hk λG w F' h hle hF=>by
  have:=cO.fix (F':=F') id h.2.2 hF λi r j av u ψ _ _ _ x=>RP.mono hle x;exact lS
end
def dR (t:List (Nat×AV)):List Nat->List (Nat×AV)
 | []=>[]| x::r =>match look x t with
  | some av=>(x,av)::dR t r| none=>dR t r
def St.only(σ:St)(ts:List Nat):St:={ σ with t:=dR σ.t ts }
theorem qx {t:List (Nat×AV)} {i:Nat} {av:AV}:∀ {ts:List Nat},look i (dR t ts)=some av->look i t=some av
 | [],h=>by cases h| x::r,h=>by
  unfold dR at h;cases hx:look x t with
  | none=>rw [hx]at h;exact qx h| some a =>
   rw [hx]at h;by_cases e:i=x;.simp_all[aB]
   .rw [ah e]at h;exact qx h
theorem qZ {t t':List (Nat×AV)}:∀ {ts:List Nat},(∀ x∈ts,look x t=look x t')->dR t ts=dR t' ts
 | [],_=>rfl| x::r,h=>by
  unfold dR;rw [h x (by simp),qZ λy hy=>h y CY]
section
variable {P:Program} {C:Cx} {σ σ':St} {G G':Gh} {a:Act} {w w':World} {ops:Array Oper} {Q:Exit→St→Prop}
theorem Ok.axH (ok:Ok C σ G a w)(ts:List Nat):Ok C (σ.only ts) G a w :=⟨ok.sz,ok.df,λi av h=>ok.tm i av (qx h),ok.bel,ok.fw,ok.f0,ok.f1,ok.ob,ok.my,ok.dj,ok.dF⟩
theorem Ok.uD (ok:Ok C σ G a w) (h:∀ t,look t σ'.t=look t σ.t) (hM:σ'.M=σ.M) (hn:σ'.nk=σ.nk):Ok C σ' G a w :=⟨ok.sz,by rw [hn];exact ok.df,λi av x=>by rw [hn];exact ok.tm i av (by rw [← h];exact x),ok.bel,ok.fw,ok.f0,ok.f1,λk o x=>by rw [hn];exact ok.ob k o (by rw [← hM];exact x),λk o x a=>ok.my k o x (by rw [← hM];exact a),λk o k' o' x a b=>ok.dj k o k' o' x (by rw [← hM];exact a) (by rw [← hM];exact b),λk o x p u a=>ok.dF k o x p u (by rw [← hM];exact a)⟩
def qm (ops:Array Oper)(o:Oper)(σ:St):Option Bool :=match o.guard with
 | none=>some true| some (j,b) =>match (ops[j]?).bind (·.dst)with
  | some d =>match look d σ.t with
   | some (.sc v)=>some (match vb v with|some c=>c == b|none=>false)| _=>none
  | none=>none
theorem qM {o:Oper} {b:Bool} (ok:Ok C σ G a w)(h:qm ops o σ=some b):Region.wanted o (yielded ops a.tmps)=b:=by
 unfold qm at h;grind[Region.wanted,D7]
def Does (P:Program)(C:Cx)(ops:Array Oper)(o:Oper)(σ:St)(av:AV):Prop :=(qm ops o (σ.only (o.looksAt ops))=some true/\WV P C o (σ.only (o.looksAt ops)) av)\/(qm ops o (σ.only (o.looksAt ops))=some false/\av=.sc undef)
theorem Does.uD {o:Oper} {av:AV} (h:Does P C ops o σ av)(hl:∀ t∈o.looksAt ops,look t σ.t=look t σ'.t)(hM:σ'.M=σ.M)(hn:σ'.nk=σ.nk):Does P C ops o σ' av:=by grind[St.only,qZ,Does]
inductive DL (P:Program)(C:Cx)(ops:Array Oper):List Oper->St->St->Prop| nil (σ:St):DL P C ops [] σ σ| op (o:Oper)(rest:List Oper)(d:Tmp)(av:AV)(σ σ':St):o.dst=some d->Nat.blt d C.N=true->Does P C ops o σ av->DL P C ops rest (σ.put d av) σ'->DL P C ops (o::rest) σ σ'
def o9 (o:Option Tmp)(b:Bool)(av:AV):List (Nat×AV) :=match b,o with
 | true,some d=>[(d,av)]| _,_=>[]
theorem uj (t:Nat)(o:Option Tmp)(b:Bool)(av:AV):look t (o9 o b av)=if b=true/\o=some t then some av else none:=by cases b with
 | false=>simp [o9,look]| true =>cases o<;>grind[o9,look,aB,ah]
def ents (ops:Array Oper) (aW:Nat->AV) (s:Nat->Bool):Nat->List (Nat×AV)
 | 0=>[]| m+1=>o9 ((ops[m]?).bind (·.dst)) (s m) (aW m)++ents ops aW s m
theorem dh {α:Type} (i:Nat):∀ (l m:List (Nat×α)),look i (l++m)=(look i l).or (look i m)
 | [],m=>rfl| x::r,m=>by
  by_cases e:i=x.1;.grind[aB]
  .rw [QW,ah e,ah e,dh i r m]
theorem kW {aW:Nat->AV} {s s':Nat->Bool} {t:Nat}:∀ {m:Nat},(∀ i,i<m->(ops[i]?).bind (·.dst)=some t->s i=s' i)->look t (ents ops aW s m)=look t (ents ops aW s' m)
 | 0,_=>rfl| m+1,h=>by
  have ih:=kW (aW:=aW) (s:=s) (s':=s') (t:=t) (m:=m) λi hi hd=>h i au hd;grind[ents,dh,uj]
theorem Gn {aW:Nat->AV} {s:Nat->Bool} {t:Nat}:∀ {m:Nat},(∀ i,i<m->(ops[i]?).bind (·.dst)=some t->s i=false)->look t (ents ops aW s m)=none
 | 0,_=>rfl| m+1,h=>by
  have ih:=Gn (aW:=aW) (s:=s) (t:=t) (m:=m) λi hi hd=>h i au hd;grind[ents,dh,uj]
theorem Em {aW:Nat->AV} {s:Nat->Bool} {t j:Nat}:∀ {m:Nat},j<m->(ops[j]?).bind (·.dst)=some t->s j=true->(∀ i,j<i->i<m->(ops[i]?).bind (·.dst)=some t->s i=false)->look t (ents ops aW s m)=some (aW j)
 | 0,h,_,_,_=>by omega| m+1,hj,hd,hs,h=>by
  unfold ents;rw [dh,uj];by_cases e:j=m;·simp_all
  ·have ih:=Em (aW:=aW) (s:=s) (t:=t) (j:=j) (m:=m) au hd hs λi h1 h2=>h i h1 au;grind
theorem uh {md:Region.Mode}:∀ (m k:Nat) (listed:Array Bool),ops.size=k+m->listed.size=ops.size->(∀ i,i<ops.size->listed.getD i true=decide (i<k))->Region.lexFrom md ops m k listed=true ->(∀ j oj,k<=j->ops[j]?=some oj->∀ e∈oj.after,Region.binds md e=true->e.on<j) /\(∀ i j oi oj,k<=i->i<j->ops[i]?=some oi->ops[j]?=some oj->(∀ e∈oj.after,Region.binds md e=true->e.on≠i)->oi.apart ops oj=true)
 | 0,k,listed,hk,_,_,_=>⟨λj oj h h'=>by simp_all,λi j oi oj h h1 h2=>by simp_all⟩| m+1,k,listed,hk,hsz,hl,h=>by
  simp only [Region.lexFrom,gG] at h;obtain ⟨⟨hr,hf⟩,hrest⟩:=h;have ih:=uh m (k+1) (listed.setIfInBounds k true) (by omega) Ru (λi hi=>by
   by_cases e:k=i;.simp_all
   .rw [show (listed.setIfInBounds k true).getD i true=listed.getD i true from by simp_all,hl i hi];grind) hrest;have hmem:k∈Region.ready md ops listed:=by simpa using hr
  grind[mem_ready,Region.free_spec]
theorem DL.data {l:List Oper} {σ σ':St} (h:DL P C ops l σ σ'):∃ aW:Nat->AV,σ'={ σ with t:=ents l.toArray aW (λ_=>true) l.length++σ.t } /\∀ j oj,l[j]?=some oj->∃ d,oj.dst=some d/\d<C.N/\Does P C ops oj { σ with t:=ents l.toArray aW (λ_=>true) j++σ.t } (aW j):=by induction h with
 | nil σ=>exact ⟨λ_=>.sc undef,rfl,λj oj h=>by simp at h⟩| op o rest d av σ σ' hd hN hdo _ ih =>
  obtain ⟨aW,e1,e2⟩:=ih;have key:∀ m,m<=rest.length->ents (o::rest).toArray (λj=>if j=0 then av else aW (j-1)) (λ_=>true) (m+1)=ents rest.toArray aW (λ_=>true) m++[(d,av)]:=by
   intro m;induction m<;>grind[ents,o9]
  refine ⟨λj=>if j=0 then av else aW (j-1),?_,λj oj hj=>?_⟩;.simp_all[St.put]
  .cases j with
   | zero=>simp_all[ents]| succ j =>grind[St.put]
theorem rF(n j:Nat):(Array.replicate n false).getD j false=false:=by simp[Array.getD]
theorem Gi {p q:Nat->Bool} (h:∀ i,q i=true->p i=true):∀ {n j:Nat},j<n->p j=true->q j=false->(List.range n).countP q<(List.range n).countP p
 | 0,_,hj,_,_=>by omega| n+1,j,hj,hp,hq=>by
  rw [Nw,List.countP_append,List.countP_append];have hle:(List.range n).countP q<=(List.range n).countP p:=List.countP_mono_left λx _ hx=>h x hx;by_cases e:j=n;.grind
  .have:=Gi h (n:=n) (j:=j) au hp hq;grind
def WA (P:Program)(C:Cx)(ops:Array Oper)(σ:St)(Q:Exit->St->Prop):Prop:=∀ G a w,Ok C σ G a w->wpAny P .any ops (Post C Q) ops.size (Array.replicate ops.size false) a { w with drawn:=w.drawn+1 }
theorem W.pK {id:Nat} (hm:P.follows .mixedOrders=true)(h:WA P C ops σ Q):W P C (.region id ops true) σ Q:=λG a w ok=>wp_region_any hm (h G a w ok)
theorem WA.draw {l:List Oper} (hB:Region.lexB .any l.toArray=true) (h:DL P C l.toArray l σ σ') (k:Q .normal σ'):WA P C l.toArray σ Q:=by
 intro G a w ok;obtain ⟨aW,e1,e2⟩:=h.data;simp only [Region.lexB,gG] at hB;obtain ⟨FA,FB⟩:=uh (ops:=l.toArray) l.toArray.size 0 (Array.replicate l.toArray.size false) (by simp) (by simp) (λi hi=>by simp_all) hB.2;have sz:l.toArray.size=l.length:=by simp
 let KS:Array Bool->St:=λlisted=>{ σ with t:=ents l.toArray aW (λi=>listed.getD i false) l.length++σ.t };have key:∀ (fuel:Nat) (listed:Array Bool) (G:Gh) (a:Act) (w:World),listed.size=l.length->(∀ j oj,l[j]?=some oj->listed.getD j false=true->∀ e∈oj.after,Region.binds .any e=true->listed.getD e.on false=true) ->(List.range l.length).countP (λi=>!listed.getD i false)<=fuel->Ok C (KS listed) G a w->wpAny P .any l.toArray (Post C Q) fuel listed a w:=by
  intro fuel;have done:∀ (listed:Array Bool) (G:Gh) (a:Act) (w:World),listed.size=l.length->Region.ready .any l.toArray listed=[]->Ok C (KS listed) G a w->Post C Q .normal a w:=by
   intro listed G a w hsz hr ok;have hall:∀ n i,i < n->i < l.length->listed.getD i false=true:=by
    intro n;induction n with
    | zero=>intro i h;omega| succ n ih =>
     intro i hi hlt;by_cases e:i < n;·exact ih i e hlt
     ·have hin:i=n:=by omega
      subst hin;cases zJ:listed.getD i false with
      | true=>rfl| false =>
       have hoi:l.toArray[i]?=some l[i]:=by simp [hlt]
       have:i∈Region.ready .any l.toArray listed:=mem_ready.2 ⟨by
        have:listed.getD i true=listed.getD i false:=by simp [dU,hsz,hlt]
        rw [this];exact zJ,l[i],hoi,λe he hb=>ih e.on (FA i l[i] (iT _) hoi e he hb) (by have:=FA i l[i] (iT _) hoi e he hb;omega)⟩;rw [hr] at this;cases this
   refine ⟨σ',G,k,ok.uD (λt=>?_) (by rw [e1]) (by rw [e1])⟩;grind[dh,kW]
  induction fuel with
  | zero =>
   intro listed G a w hsz hcl hf ok;exact aqp| succ fuel ih =>
   intro listed G a w hsz hcl hf ok;refine ⟨λhr=>done listed G a w hsz hr ok,λj hj=>?_⟩;obtain ⟨h1,oj,h2,h4⟩:=mem_ready.1 hj;have hlt:j < l.length:=by have:=(Array.getElem?_eq_some_iff.1 h2).1;omega
   have h3:listed.getD j false=false:=by exact U1
   have hlj:l[j]?=some oj:=by simpa using h2
   obtain ⟨d,hd,hdN,KI⟩:=e2 j oj hlj;have hlook:∀ t∈oj.looksAt l.toArray,∀ i,i < l.length->(l.toArray[i]?).bind (·.dst)=some t->listed.getD i false=decide (i < j):=by
    intro t ht i hi hdi;have hoi:l.toArray[i]?=some l[i]:=by simp [hi]
    rw [hoi] at hdi;have hdi:l[i].dst=some t:=hdi;rcases Q8 i j with hij|hij|hij
    ·rw [bQ hij];by_cases hno:∃ e,e∈oj.after/\Region.binds .any e=true/\e.on=i
     ·obtain ⟨e,he,hb,rfl⟩:=hno;exact h4 e he hb
     ·exact absurd ht ((Oper.apart_spec (FB i j _ _ (iT _) hij hoi h2 λe he hb h=>hno ⟨e,he,hb,h⟩)).1 t hdi)
    ·subst hij;rw [h3];simp
    ·rw [bW (by omega)];cases zJ:listed.getD i false with
     | false=>rfl| true =>
      by_cases hno:∃ e,e∈(l[i]).after/\Region.binds .any e=true/\e.on=j;·exact alm
      ·exact absurd ht ((Oper.apart_spec (FB j i _ _ (iT _) hij h2 hoi λe he hb h=>hno ⟨e,he,hb,h⟩)).2.2 t hdi)
   have VR:∀ t,look t (ents l.toArray aW (λ_=>true) j)=look t (ents l.toArray aW (λi=>decide (i < j)) l.length):=by
    intro t;exact aqr
   have hdo:Does P C l.toArray oj (KS listed) (aW j):=KI.uD (λt ht=>by
    show look t (_++_)=look t (_++_);rw [dh,dh,VR t,kW λi hi hdi=>(hlook t ht i hi hdi).symm]) rfl rfl;have next:∀ (v:Value) (G':Gh) (w':World),Ok C (KS listed) G' a w'->R G' (aW j) v->Bd σ.nk (aW j)->wpAny P .any l.toArray (Post C Q) fuel (listed.setIfInBounds j true) (a.put oj.dst v) w':=by
    intro v G' w' ok' hr hb;have ok2:=ok'.set (d:=some d) hr hb λx hx=>by cases hx;exact hdN
    rw [hd];refine ih (listed.setIfInBounds j true) G' _ w' Ru (λi oi hi zJ e he hb=>?_) ?_ (ok2.uD (λt=>?_) rfl rfl)
    ·have mono:∀ q,listed.getD q false=true->(listed.setIfInBounds j true).getD q false=true:=λq hq=>by
      by_cases e:j=q;·subst e;rw [hq] at h3;cases h3
      ·simpa [dU,sO e] using hq
     by_cases e2:j=i
     ·subst e2;rw [hlj] at hi;cases hi;exact mono _ (h4 e he hb)
     ·refine mono _ (hcl i oi hi ?_ e he hb);simpa [dU,sO e2] using zJ
    ·have hlt2:(List.range l.length).countP (λi=>!(listed.setIfInBounds j true).getD i false) < (List.range l.length).countP (λi=>!listed.getD i false):=by
      exact Gi (λi hi=>by
       by_cases e:j=i;·subst e;simp [dU,hsz,hlt] at hi
       ·simpa [dU,sO e] using hi) hlt (by simp [h3]) adW
     omega
    ·show look t (_++_)=look t ((d,aW j)::(_++_));by_cases et:t=d
     ·subst et;rw [aB,dh,Em (j:=j) hlt (by rw [h2];exact hd) adW λi hij hi hdi=>?_];·rfl
      ·have hoi:l.toArray[i]?=some l[i]:=by simp [hi]
       rw [hoi] at hdi;have hdi:l[i].dst=some t:=hdi;have hne:j≠i:=by omega
       cases zJ:listed.getD i false with
       | false=>simpa [dU,sO hne] using zJ| true =>
        by_cases hno:∃ e,e∈(l[i]).after/\Region.binds .any e=true/\e.on=j;·exact alm
        exact alr
     ·rw [ah et,dh,dh];exact asu
   unfold wpOp;simp only [h2];have okO:=ok.axH (oj.looksAt l.toArray);exact amM
 refine key _ (Array.replicate l.toArray.size false) G a _ (by simp) (λj oj _ h=>?_) ?_ (ok.drew.uD (λt=>?_) rfl rfl);all_goals grind[rF,List.countP_le_length,dh,Gn]
theorem W.draw {id:Nat} {l:List Oper} (hm:P.follows .mixedOrders=true)(hB:Region.lexB .any l.toArray=true)(h:DL P C l.toArray l σ σ')(k:Q .normal σ'):W P C (.region id l.toArray true) σ Q:=W.pK hm (WA.draw hB h k)
end
end
end Go.Proofs.YthohlofpphjofaaGreatDoor
