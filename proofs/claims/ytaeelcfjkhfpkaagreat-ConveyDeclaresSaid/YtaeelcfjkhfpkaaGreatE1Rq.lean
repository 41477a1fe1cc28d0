/- A walk that knows values as trees and its own memory as a list of objects, each with all the blocks that belong to it: what is known, and what it means. -/
import Derived.Test.YtaeelcfjkhfpkaaGreatApp2Rq
import Derived.Lib.Hide
set_option linter.unusedVariables false
set_option linter.unusedSimpArgs false
namespace Go.Proofs.YtaeelcfjkhfpkaaGreat
open Go.RowKit
inductive AV where
 | sc (v:Value)
 | ag (l:List AV)
 | tu (l:List AV)
 | ls (n:Nat)(rows:List (List AV))
 | ow (T:TypeId)(n:Nat)(rows:List (List AV))
 | pr (cells:List AV)
 | pt (k i j:Nat)
 | sl (k:Nat)
 | fn (f:FuncId)(caps:List AV)
abbrev View:=Addr→Option Value
inductive RP (F:View):AV→Value→Prop
 | sc (v:Value):RP F (.sc v) v
 | ag (l:List AV) (cs:Array Value):cs.size=l.length→(∀ (i:Nat) av u,l[i]?=some av→cs[i]?=some u→RP F av u)→RP F (.ag l) (.agg cs)
 | tu (l:List AV) (cs:Array Value):cs.size=l.length→(∀ (i:Nat) av u,l[i]?=some av→cs[i]?=some u→RP F av u)→RP F (.tu l) (.tuple cs)
 | ls (n:Nat) (rows:List (List AV)) (A:Option Addr) (cap:Nat) (ad:Addr) (u:Nat→Nat→Value):rows.length≤cap→(∀ r∈rows,r.length=n)→(0<rows.length→A=some ad) →
   (∀ (i:Nat) r (j:Nat) av,rows[i]?=some r→r[j]?=some av→F (ad.add (i*n+j))=some (u i j)∧(u i j).oneCell'=true) →
   (∀ (i:Nat) r (j:Nat) av,rows[i]?=some r→r[j]?=some av→RP F av (u i j))→RP F (.ls n rows) (.slice A rows.length cap)
 | pr (cells:List AV) (p:Addr) (u:Nat→Value):(∀ (j:Nat) av,cells[j]?=some av→F (p.add j)=some (u j)∧(u j).oneCell'=true) →
   (∀ (j:Nat) av,cells[j]?=some av→RP F av (u j))→RP F (.pr cells) (.pointer (some p))
 | fn (f:FuncId) (l:List AV) (cs:Array Value):cs.size=l.length→(∀ (i:Nat) av u,l[i]?=some av→cs[i]?=some u→RP F av u)→RP F (.fn f l) (.func (.func f) #[] cs)
def View.le(F F':View):Prop:=∀ p u,F p=some u→F' p=some u
theorem RP.mono {F F':View} (h:F.le F') {av:AV} {v:Value} (r:RP F av v):RP F' av v:=by
 induction r with
 | sc v=>exact .sc v
 | ag l cs h1 _ ih=>exact .ag l cs h1 ih
 | tu l cs h1 _ ih=>exact .tu l cs h1 ih
 | ls n rows A cap ad u h0 h1 h2 h3 _ ih=>exact .ls n rows A cap ad u h0 h1 h2 (fun i r j av a b=>⟨h _ _ (h3 i r j av a b).1,(h3 i r j av a b).2⟩) ih
 | pr cells p u h1 _ ih=>exact .pr cells p u (fun j av a=>⟨h _ _ (h1 j av a).1,(h1 j av a).2⟩) ih
 | fn f l cs h1 _ ih=>exact .fn f l cs h1 ih
structure Gh where
 F:View
 b:Nat→Nat
 n:Nat→Nat
 h:Nat→Value
 fp:Nat→Nat→Prop
inductive R (G:Gh):AV→Value→Prop
 | pu (av:AV) (v:Value):RP G.F av v→R G av v
 | pt (k i j:Nat) (p:Addr):p.block=G.b k→p.off=i*G.n k+j→p.spot=none→R G (.pt k i j) (.pointer (some p))
 | sl (k:Nat):(G.h k).oneCell'=true→R G (.sl k) (G.h k)
 | ag (l:List AV) (cs:Array Value):cs.size=l.length→(∀ (i:Nat) av u,l[i]?=some av→cs[i]?=some u→R G av u)→R G (.ag l) (.agg cs)
 | tu (l:List AV) (cs:Array Value):cs.size=l.length→(∀ (i:Nat) av u,l[i]?=some av→cs[i]?=some u→R G av u)→R G (.tu l) (.tuple cs)
 | fn (f:FuncId) (l:List AV) (cs:Array Value):cs.size=l.length→(∀ (i:Nat) av u,l[i]?=some av→cs[i]?=some u→R G av u)→R G (.fn f l) (.func (.func f) #[] cs)
inductive Bd (nk:Nat):AV→Prop
 | sc (v:Value):Bd nk (.sc v)
 | ls (n:Nat)(rows:List (List AV)):Bd nk (.ls n rows)
 | ow (T:TypeId)(n:Nat)(rows:List (List AV)):Bd nk (.ow T n rows)
 | pr (cells:List AV):Bd nk (.pr cells)
 | pt (k i j:Nat):k<nk→Bd nk (.pt k i j)
 | sl (k:Nat):k<nk→Bd nk (.sl k)
 | ag (l:List AV):(∀ (i:Nat)x,l[i]?=some x→Bd nk x)→Bd nk (.ag l)
 | tu (l:List AV):(∀ (i:Nat)x,l[i]?=some x→Bd nk x)→Bd nk (.tu l)
 | fn (f:FuncId)(l:List AV):(∀ (i:Nat)x,l[i]?=some x→Bd nk x)→Bd nk (.fn f l)
theorem Bd.mono {nk nk':Nat} (h:nk≤nk') {av:AV} (b:Bd nk av):Bd nk' av:=by
 induction b with
 | sc v=>exact .sc v
 | ls n rows=>exact .ls n rows
 | ow T n rows=>exact .ow T n rows
 | pr cells=>exact .pr cells
 | pt k i j hk=>exact .pt k i j zqo
 | sl k hk=>exact .sl k zqo
 | ag l _ ih=>exact .ag l ih
 | tu l _ ih=>exact .tu l ih
 | fn f l _ ih=>exact .fn f l ih
structure Gh.le(G G':Gh)(nk:Nat):Prop where
 F:G.F.le G'.F
 b:∀ k,k<nk→G'.b k=G.b k
 n:∀ k,k<nk→G'.n k=G.n k
 h:∀ k,k<nk→G'.h k=G.h k
theorem Gh.le.refl(G:Gh)(nk:Nat):G.le G nk:=⟨fun _ _ h=>h,fun _ _=>rfl,fun _ _=>rfl,fun _ _=>rfl⟩
theorem R.mono {G G':Gh} {nk:Nat} (h:G.le G' nk) {av:AV} {v:Value} (r:R G av v) (b:Bd nk av):R G' av v:=by
 induction r with
 | pu av v hp=>exact .pu _ _ (hp.mono h.F)
 | pt k i j p h1 h2 h3 =>
  cases b with
  | pt _ _ _ hk=>exact .pt k i j p (by rw [h.b k hk];exact h1) (by rw [h.n k hk];exact h2) h3
 | sl k h1 =>
  cases b with
  | sl _ hk=>rw [← h.h k hk];exact .sl k (by rw [h.h k hk];exact h1)
 | ag l cs h1 _ ih =>
  cases b with
  | ag _ hb=>exact .ag l cs h1 fun i av u a c=>ih i av u a c (hb i av a)
 | tu l cs h1 _ ih =>
  cases b with
  | tu _ hb=>exact .tu l cs h1 fun i av u a c=>ih i av u a c (hb i av a)
 | fn f l cs h1 _ ih =>
  cases b with
  | fn _ _ hb=>exact .fn f l cs h1 fun i av u a c=>ih i av u a c (hb i av a)
theorem RP.sc_eq {F:View} {v u:Value} (r:RP F (.sc v) u):u=v:=by cases r;rfl
theorem R.sc_eq {G:Gh} {v u:Value} (r:R G (.sc v) u):u=v:=by cases r with|pu _ _ h=>exact h.sc_eq
theorem R.pu_of {G:Gh} {n:Nat} {rows:List (List AV)} {u:Value} (r:R G (.ls n rows) u):RP G.F (.ls n rows) u:=by cases r with|pu _ _ h=>exact h
theorem R.pr_of {G:Gh} {cells:List AV} {u:Value} (r:R G (.pr cells) u):RP G.F (.pr cells) u:=by cases r with|pu _ _ h=>exact h
theorem RP.no_ow {F:View} {T n:Nat} {rows:List (List AV)} {u:Value} (r:RP F (.ow T n rows) u):False:=by cases r
theorem R.no_ow {G:Gh} {T n:Nat} {rows:List (List AV)} {u:Value} (r:R G (.ow T n rows) u):False:=by cases r with|pu _ _ h=>exact h.no_ow
theorem R.ag_of {G:Gh} {l:List AV} {u:Value} (r:R G (.ag l) u):∃ cs:Array Value,u=.agg cs∧cs.size=l.length∧∀ (i:Nat) av u,l[i]?=some av→cs[i]?=some u→R G av u:=by
 cases r with
 | pu _ _ h=>cases h with|ag _ cs h1 h2=>exact⟨cs,rfl,h1,fun i av u a b=>.pu _ _ (h2 i av u a b)⟩
 | ag _ cs h1 h2=>exact⟨cs,rfl,h1,h2⟩
theorem R.tu_of {G:Gh} {l:List AV} {u:Value} (r:R G (.tu l) u):∃ cs:Array Value,u=.tuple cs∧cs.size=l.length∧∀ (i:Nat) av u,l[i]?=some av→cs[i]?=some u→R G av u:=by
 cases r with
 | pu _ _ h=>cases h with|tu _ cs h1 h2=>exact⟨cs,rfl,h1,fun i av u a b=>.pu _ _ (h2 i av u a b)⟩
 | tu _ cs h1 h2=>exact⟨cs,rfl,h1,h2⟩
theorem R.fn_of {G:Gh} {f:FuncId} {l:List AV} {u:Value} (r:R G (.fn f l) u):∃ cs:Array Value,u=.func (.func f) #[] cs∧cs.size=l.length∧∀ (i:Nat) av u,l[i]?=some av→cs[i]?=some u→R G av u:=by
 cases r with
 | pu _ _ h=>cases h with|fn _ _ cs h1 h2=>exact⟨cs,rfl,h1,fun i av u a b=>.pu _ _ (h2 i av u a b)⟩
 | fn _ _ cs h1 h2=>exact⟨cs,rfl,h1,h2⟩
theorem R.pt_of {G:Gh} {k i j:Nat} {u:Value} (r:R G (.pt k i j) u):∃ p:Addr,u=.pointer (some p)∧p.block=G.b k∧p.off=i*G.n k+j∧p.spot=none:=by
 cases r with
 | pu _ _ h=>cases h
 | pt _ _ _ p a b c=>exact⟨p,rfl,a,b,c⟩
theorem R.sl_of {G:Gh} {k:Nat} {u:Value} (r:R G (.sl k) u):u=G.h k∧u.oneCell'=true:=by
 cases r with
 | pu _ _ h=>cases h
 | sl _ h=>exact⟨rfl,h⟩
theorem RP.ls_of {F:View} {n:Nat} {rows:List (List AV)} {v:Value} (r:RP F (.ls n rows) v):∃ A cap ad,∃ u:Nat→Nat→Value,v=.slice A rows.length cap∧(∀ r∈rows,r.length=n)∧(0<rows.length→A=some ad) ∧
  (∀ (i:Nat) r (j:Nat) av,rows[i]?=some r→r[j]?=some av→F (ad.add (i*n+j))=some (u i j)∧(u i j).oneCell'=true)∧(∀ (i:Nat) r (j:Nat) av,rows[i]?=some r→r[j]?=some av→RP F av (u i j))∧rows.length≤cap:=by
 cases r with|ls _ _ A cap ad u h0 h1 h2 h3 h4=>exact⟨A,cap,ad,u,rfl,h1,h2,h3,h4,h0⟩
theorem RP.pr_of {F:View} {cells:List AV} {v:Value} (r:RP F (.pr cells) v):∃ p:Addr,∃ u:Nat→Value,v=.pointer (some p)∧(∀ (j:Nat) av,cells[j]?=some av→F (p.add j)=some (u j)∧(u j).oneCell'=true) ∧
   (∀ (j:Nat) av,cells[j]?=some av→RP F av (u j)):=by
 cases r with|pr _ p u h1 h2=>exact⟨p,u,rfl,h1,h2⟩
inductive OW (F:View)(w:World):AV→Value→(Nat→Prop)→Prop
 | pu (av:AV)(v:Value)(φ:Nat→Prop):RP F av v→OW F w av v φ
 | ow (T n:Nat)(rows:List (List AV))(v:Value)(φ:Nat→Prop)(vs:List (List Value))(Φ:Nat→Nat→Nat→Prop):(∀ r∈rows,r.length=n)→w.ownsRow 0 T n v vs.length vs.flatten→vs.length=rows.length→(∀ r∈vs,∀ u∈r,u.oneCell'=true) →
   (∀ g,v.ownBlock=some g→φ g)→(∀ i j x,Φ i j x→φ x∧v.ownBlock≠some x)→(∀ i j i' j' x,Φ i j x→Φ i' j' x→i=i'∧j=j') →
   (∀ (i:Nat) r r',rows[i]?=some r→vs[i]?=some r'→r'.length=r.length) →
   (∀ (i:Nat) r r' (j:Nat) av u,rows[i]?=some r→vs[i]?=some r'→r[j]?=some av→r'[j]?=some u→OW F w av u (Φ i j))→OW F w (.ow T n rows) v φ
def CR(G:Gh)(w:World)(φ:Nat→Prop)(av:AV)(u:Value):Prop:=R G av u∨OW G.F w av u φ
def RowIs (w:World)(T n:Nat)(rows:List (List AV))(v:Value)(φ:Nat→Prop)(X:Nat→Nat→(Nat→Prop)→AV→Value→Prop):Prop :=
 (∀ r∈rows,r.length=n)∧∃ (vs:List (List Value))(Φ:Nat→Nat→Nat→Prop),w.ownsRow 0 T n v vs.length vs.flatten∧vs.length=rows.length∧(∀ r∈vs,∀ u∈r,u.oneCell'=true) ∧
   (∀ g,v.ownBlock=some g→φ g)∧(∀ i j x,Φ i j x→φ x∧v.ownBlock≠some x)∧(∀ i j i' j' x,Φ i j x→Φ i' j' x→i=i'∧j=j') ∧
   (∀ (i:Nat) r r',rows[i]?=some r→vs[i]?=some r'→r'.length=r.length) ∧
   (∀ (i:Nat) r r' (j:Nat) av u,rows[i]?=some r→vs[i]?=some r'→r[j]?=some av→r'[j]?=some u→X i j (Φ i j) av u)
def XP(F:View):Nat→Nat→(Nat→Prop)→AV→Value→Prop:=fun _ _ _ av u=>RP F av u
def XO(F:View)(w:World):Nat→Nat→(Nat→Prop)→AV→Value→Prop:=fun _ _ φ av u=>OW F w av u φ
def XH(G:Gh)(hi hj:Nat)(x:AV):Nat→Nat→(Nat→Prop)→AV→Value→Prop:=fun i j _ av u=>if i=hi∧j=hj then R G x u else RP G.F av u
def XQ(G:Gh)(w:World)(hi hj:Nat)(x:AV):Nat→Nat→(Nat→Prop)→AV→Value→Prop:=fun i j φ av u=>if i=hi∧j=hj then R G x u else OW G.F w av u φ
theorem RowIs.ow {F:View} {w:World} {T n:Nat} {rows:List (List AV)} {v:Value} {φ:Nat→Prop} (h:RowIs w T n rows v φ (XO F w)):OW F w (.ow T n rows) v φ:=by
 obtain⟨h1,vs,Φ,h2,h3,h4,h5,h6,h7,h8,h9⟩:=h
 exact .ow T n rows v φ vs Φ h1 h2 h3 h4 h5 h6 h7 h8 h9
theorem OW.row {F:View} {w:World} {T n:Nat} {rows:List (List AV)} {v:Value} {φ:Nat→Prop} (h:OW F w (.ow T n rows) v φ):RowIs w T n rows v φ (XO F w):=by
 cases h with
 | pu _ _ _ r=>exact r.no_ow.elim
 | ow _ _ _ _ _ vs Φ h1 h2 h3 h4 h5 h6 h7 h8 h9=>exact⟨h1,vs,Φ,h2,h3,h4,h5,h6,h7,h8,h9⟩
theorem ownsRow_keep {w w':World} {B e size n:Nat} {v:Value} {xs:List Value} (h:w.ownsRow B e size v n xs) (hk:∀ g,v.ownBlock=some g→w'.heap[g]?=w.heap[g]?):w'.ownsRow B e size v n xs:=by
 refine ⟨h.1,?_⟩
 rcases h.2 with x|⟨g,cap,cur,e,hb,hh,hr⟩
 ·exact .inl x
 ·exact .inr ⟨g,cap,cur,e,hb,(hk g (by rw [e];rfl)).trans hh,hr⟩
theorem OW.keep {F F':View} {w w':World} {av:AV} {v:Value} {φ:Nat→Prop} (hF:F.le F')(h:OW F w av v φ):(∀ x,φ x→w'.heap[x]?=w.heap[x]?)→OW F' w' av v φ:=by
 induction h with
 | pu av v φ r=>exact fun _=>.pu av v φ (r.mono hF)
 | ow T n rows v φ vs Φ h1 h2 h3 h4 h5 h6 h7 h8 _ ih =>
  intro hw
  exact .ow T n rows v φ vs Φ h1 (ownsRow_keep h2 fun g hg=>hw g (h5 g hg)) h3 h4 h5 h6 h7 h8 fun i r r' j av u a b c d=>ih i r r' j av u a b c d fun x hx=>hw x (h6 i j x hx).1
theorem OW.wide {F:View} {w:World} {av:AV} {v:Value} {φ φ':Nat→Prop} (h:OW F w av v φ) (hp:∀ x,φ x→φ' x):OW F w av v φ':=by
 cases h with
 | pu _ _ _ r=>exact .pu av v φ' r
 | ow T n rows _ _ vs Φ h1 h2 h3 h4 h5 h6 h7 h8 h9=>exact .ow T n rows v φ' vs Φ h1 h2 h3 h4 (fun g hg=>hp g (h5 g hg)) (fun i j x hx=>⟨hp x (h6 i j x hx).1,(h6 i j x hx).2⟩) h7 h8 h9
theorem CR.keep {G G':Gh} {w w':World} {nk:Nat} {φ:Nat→Prop} {av:AV} {v:Value} (h:CR G w φ av v)(hle:G.le G' nk)(hb:Bd nk av)(hw:∀ x,φ x→w'.heap[x]?=w.heap[x]?):CR G' w' φ av v :=
 h.elim (fun r=>.inl (r.mono hle hb)) fun o=>.inr (o.keep hle.F hw)
def AV.own:AV→Bool
 | .ow _ _ _=>true
 | _=>false
theorem CR.r {G:Gh} {w:World} {φ:Nat→Prop} {av:AV} {v:Value} (h:CR G w φ av v)(ho:av.own=false):R G av v:=by
 rcases h with r|o
 ·exact r
 ·cases o with
  | pu _ _ _ r=>exact .pu _ _ r
  | ow=>cases ho
theorem OW.p {F:View} {w:World} {φ:Nat→Prop} {av:AV} {v:Value} (h:OW F w av v φ)(ho:av.own=false):RP F av v:=by
 cases h with
 | pu _ _ _ r=>exact r
 | ow=>cases ho
theorem CR.wide {G:Gh} {w:World} {φ φ':Nat→Prop} {av:AV} {v:Value} (h:CR G w φ av v)(hp:∀ x,φ x→φ' x):CR G w φ' av v:=h.elim .inl fun o=>.inr (o.wide hp)
def BldIs (w:World) (T e b:Nat) (φ:Nat→Prop) (l:List UInt8):Prop :=
 ∃ p v,(p=.pointer none∨p=.pointer (some ⟨b,0,none⟩))∧w.heap[b]?=some (.cells #[p,v] T (0,0))∧w.ownsRowF 0 e 1 v l.length (Lib.byteCells l)∧∀ g,v.ownBlock=some g→φ g∧g≠b
structure Opq where
 Q:World→Nat→Value→(Nat→Prop)→Prop
 st:∀ w w' b v φ,(∀ x,φ x→w'.heap[x]?=w.heap[x]?)→Q w b v φ→Q w' b v φ
inductive AO where
 | box (T:TypeId)(cells:List AV)
 | row (T:TypeId)(n:Nat)(rows:List (List AV))
 | rwn (T:TypeId)(n:Nat)(rows:List (List AV))
 | rof (T:TypeId)(n:Nat)(rows:List (List AV))(hi hj:Nat)(x:AV)
 | rwo (T:TypeId)(n:Nat)(rows:List (List AV))(hi hj:Nat)(x:AV)
 | bld (T e:TypeId)(l:List UInt8)
 | opq (q:Opq)
def RL(F:View)(l:List AV)(vs:List Value):Prop:=vs.length=l.length∧∀ (i:Nat)av u,l[i]?=some av→vs[i]?=some u→RP F av u
def BoxIs (w:World)(T b:Nat)(φ:Nat→Prop)(cells:List AV)(X:(Nat→Prop)→AV→Value→Prop):Prop :=
 ∃ (cs:Array Value)(Φ:Nat→Nat→Prop),Blk w b T cs∧cs.size=cells.length∧(∀ i x,Φ i x→φ x∧x≠b)∧(∀ i i' x,Φ i x→Φ i' x→i=i')∧∀ (i:Nat) av u,cells[i]?=some av→cs[i]?=some u→X (Φ i) av u
def ObAt (G:Gh) (w:World) (k:Nat):AO→Prop
 | .box T cells=>G.fp k (G.b k)∧BoxIs w T (G.b k) (G.fp k) cells (CR G w)
 | .row T n rows=>G.n k=n∧(∀ g,(G.h k).ownBlock=some g→g=G.b k)∧RowIs w T n rows (G.h k) (G.fp k) (XP G.F)
 | .rwn T n rows=>G.n k=n∧(∀ g,(G.h k).ownBlock=some g→g=G.b k)∧RowIs w T n rows (G.h k) (G.fp k) (XO G.F w)
 | .rof T n rows hi hj x=>G.n k=n∧(∀ g,(G.h k).ownBlock=some g→g=G.b k)∧RowIs w T n rows (G.h k) (G.fp k) (XH G hi hj x)
 | .rwo T n rows hi hj x=>G.n k=n∧(∀ g,(G.h k).ownBlock=some g→g=G.b k)∧RowIs w T n rows (G.h k) (G.fp k) (XQ G w hi hj x)
 | .bld T e l=>G.fp k (G.b k)∧BldIs w T e (G.b k) (G.fp k) l
 | .opq q=>q.Q w (G.b k) (G.h k) (G.fp k)
def AO.bd(nk:Nat):AO→Prop
 | .box _ cells=>∀ (i:Nat)av,cells[i]?=some av→Bd nk av
 | .row _ _ _=>True
 | .rwn _ _ _=>True
 | .rof _ _ _ _ _ x=>Bd nk x
 | .rwo _ _ _ _ _ x=>Bd nk x
 | .bld _ _ _=>True
 | .opq _=>True
def look {α:Type} (i:Nat):List (Nat×α)→Option α
 | []=>none
 | x::r=>bif Nat.beq i x.1 then some x.2 else look i r
structure Kept(S:Nat→Prop)(w w':World):Prop where
 os:w'.os=w.os
 tape:w'.tape=w.tape
 output:w'.output=w.output
 size:w.heap.size≤w'.heap.size
 block:∀ k,k<w.heap.size→¬ S k→w'.heap[k]?=w.heap[k]?
theorem Kept.refl(S:Nat→Prop)(w:World):Kept S w w:=⟨rfl,rfl,rfl,Nat.le_refl _,fun _ _ _=>rfl⟩
theorem Kept.below {S:Nat→Prop} {w w':World} (h:Below w.heap.size w w'):Kept S w w':=⟨h.os,h.tape,h.output,h.size,fun i hi _=>h.block i hi⟩
theorem Kept.to_below {S:Nat→Prop} {w w':World} (h:Kept S w w')(hs:∀ x,¬ S x):Below w.heap.size w w':=⟨h.os,h.tape,h.output,h.size,fun i hi=>h.block i hi (hs i)⟩
theorem Kept.on {S S':Nat→Prop} {a b c:World} (h:Kept S a b)(k:Kept S' b c)(hs:∀ x,S' x→a.heap.size≤x∨S x):Kept S a c :=
 ⟨k.os.trans h.os,k.tape.trans h.tape,k.output.trans h.output,Nat.le_trans h.size k.size,fun i hi hn=>(k.block i (Nat.lt_of_lt_of_le hi h.size) fun x=>(hs i x).elim (fun y=>by omega) hn).trans (h.block i hi hn)⟩
structure Cx where
 w0:World
 F0:View
 N:Nat
 fp:Nat→Prop
 np:Nat
 pg:Gh
def Cx.may(C:Cx)(x:Nat):Prop:=C.w0.heap.size≤x∨C.fp x
structure St where
 t:List (Nat×AV)
 M:List (Nat×AO)
 nk:Nat
structure Ok (C:Cx)(σ:St)(G:Gh)(a:Act)(w:World):Prop where
 sz:a.tmps.size=C.N
 df:a.defers=[]∧C.np≤σ.nk∧∀ k,k<C.np→G.b k=C.pg.b k∧G.n k=C.pg.n k∧G.h k=C.pg.h k
 tm:∀ i av,look i σ.t=some av→i<C.N∧Bd σ.nk av∧R G av (a.tmps.getD i undef)
 bel:Kept C.fp C.w0 w
 fw:∀ p u,G.F p=some u→w.cell? p=some u
 f0:C.F0.le G.F
 f1:∀ p u,G.F p=some u→C.F0 p=some u∨C.may p.block
 ob:∀ k o,look k σ.M=some o→k<σ.nk∧o.bd σ.nk∧ObAt G w k o
 my:∀ k o x,look k σ.M=some o→G.fp k x→C.may x∧x<w.heap.size
 dj:∀ k o k' o' x,look k σ.M=some o→look k' σ.M=some o'→G.fp k x→G.fp k' x→k=k'
 dF:∀ k o x p u,look k σ.M=some o→G.fp k x→G.F p=some u→p.block≠x
theorem cell_block {w:World} {p:Addr} {u:Value} (h:w.cell? p=some u):p.block<w.heap.size:=by
 rcases Nat.lt_or_ge p.block w.heap.size with hlt|hge
 ·exact hlt
 ·simp [World.cell?,Array.getElem?_eq_none hge]at h
theorem look_set_same {α:Type} {i:Nat} {x:α} {r:List (Nat×α)}:look i ((i,x)::r)=some x:=by
 simp [look]
theorem look_set_other {α:Type} {i j:Nat} {x:α} {r:List (Nat×α)} (h:i≠j):look i ((j,x)::r)=look i r:=by
 have:Nat.beq i j=false:=by cases hb:Nat.beq i j with
  | false=>rfl
  | true=>exact absurd (Nat.eq_of_beq_eq_true hb) h
 simp [look,this]
end Go.Proofs.YtaeelcfjkhfpkaaGreat
