/- A walk that knows values as trees: contracts that take objects and hand objects back. -/
import Derived.Test.YthohlofpphjofaaGreatDoorEZGq
set_option linter.unusedVariables false
set_option linter.unusedSimpArgs false
namespace Go.Proofs.YthohlofpphjofaaGreatDoor
open Go.RowKit
section
variable {p:Prop}
theorem aeT(h:p:=by
 by_cases e:i=hi∧j=hj
 ·rw [if_pos e] at x ⊢
  exact R.un1 h x
 exact UG):p:=h
theorem ad8(h:p:=by
 rw [rhi i (by omega),if_pos (by omega),show σ.nk+(i-nk)-σ.nk+nk=i by omega]):p:=h
theorem adZ(h:p:=by
 obtain ⟨h1,h2,h3⟩:=hM.at_ k o h
 rw [rlo k h3] at h1
 exact ⟨h1,h2,h3⟩):p:=h
theorem adr(h:p:=by
 obtain ⟨h3,_,h4⟩:=hMat k o h1
 have h2:G.fp (rhoC ks nk σ.nk k) x:=h2
 rw [rlo k h4] at h2
 exact ⟨k,_,h4,h3,h2⟩):p:=h
theorem afx(h:p:=by
 rw [dI,aB (by omega)];rfl):p:=h
theorem ajk(h:p:=by
 rw [dI,aB (by omega)]
 exact of_blt (List.all_eq_true.1 hk4 _ (fA _))):p:=h
theorem afp(h:p:=by
 show (bif Nat.blt i nk then _ else _)=_
 rw [show Nat.blt i nk=true from nG hi];rfl):p:=h
theorem aiK(h:p:=by
 refine ⟨ok.fw,fun k o h=>?_,fun k o x h1 h2=>?_,fun k o k' o' x h1 h2 h3 h4=>?_,fun k o x p u h1 h2 h3=>?_⟩
 ·obtain ⟨h1,h2,h3⟩:=hM.at_ k o h
  have g:=(ok.ob _ _ h1).2.2
  exact ⟨h3,(ObAt.ren h2 g).1,(ObAt.ren h2 g).2⟩
 ·obtain ⟨h3,_,_⟩:=hM.at_ k o h1
  exact (ok.my _ _ x h3 h2).2
 ·obtain ⟨f1,_,f2⟩:=hM.at_ k o h1
  obtain ⟨f3,_,f4⟩:=hM.at_ k' o' h2
  have:=ok.dj _ _ _ _ x f1 f3 h3 h4
  rw [rlo k f2,rlo k' f4] at this
  have g1:=idx_of hnod (hat k f2)
  have g2:=idx_of hnod (hat k' f4)
  rw [this,g2] at g1
  exact (Option.some.inj g1).symm
 ·obtain ⟨f1,_,_⟩:=hM.at_ k o h1
  exact ok.dF _ _ x p u f1 h2 h3):p:=h
end
def fpM (G:Gh)(M:List (Nat×AO))(x:Nat):Prop:=∃ k o,look k M=some o∧G.fp k x
structure Obs (G:Gh)(w:World)(M:List (Nat×AO))(nk:Nat):Prop where
 fw:∀ p u,G.F p=some u→w.cell? p=some u
 ob:∀ k o,look k M=some o→k<nk∧o.bd nk∧ObAt G w k o
 my:∀ k o x,look k M=some o→G.fp k x→x<w.heap.size
 dj:∀ k o k' o' x,look k M=some o→look k' M=some o'→G.fp k x→G.fp k' x→k=k'
 dF:∀ k o x p u,look k M=some o→G.fp k x→G.F p=some u→p.block≠x
def Cto (B:World→View→Prop)(g:Nat)(P:Program)(f:FuncId)(args:List AV)(M:List (Nat×AO))(nk:Nat)(res:AV)(M':List (Nat×AO))(nk':Nat):Prop :=
 ∀ (w:World)(G:Gh)(vs:List Value),B w G.F→(∀ x,fpM G M x→g≤x)→Obs G w M nk→vs.length=args.length→(∀ (i:Nat) av u,args[i]?=some av→vs[i]?=some u→R G av u) →
  Calls P f vs.toArray w fun e w'=>∃ v G',e=.returned v∧Kept (fpM G M) w w'∧View.le G.F G'.F∧(∀ p u,G'.F p=some u→G.F p=some u∨w.heap.size≤p.block∨fpM G M p.block)∧Obs G' w' M' nk' ∧
   (∀ k o x,look k M'=some o→G'.fp k x→w.heap.size≤x∨fpM G M x)∧(∀ k,k<nk→G'.b k=G.b k∧G'.n k=G.n k∧G'.h k=G.h k)∧nk≤nk'∧Bd nk' res∧R G' res v
def QFinM (P:Program) (fn:Func) (C:Cx) (res:AV) (M':List (Nat×AO)) (nk':Nat):Exit→St→Prop:=fun e σ=>(e=.normal∨e=.ret) ∧
 ∀ G a w,Ok C σ G a w→∃ v G',(results fn a.tmps).run P w=.ok v w∧Ok C ⟨[],M',nk'⟩ G' a w∧Bd nk' res∧R G' res v
theorem Cto.intro {B:World→View→Prop} {g:Nat} (hS:Stab B g) {P:Program} {f:FuncId} {fn:Func} {c:Code} {args:List AV} {M:List (Nat×AO)} {nk:Nat} {res:AV} {M':List (Nat×AO)} {nk':Nat} (hf:P.funcs[f]?=some fn) (hb:fn.body=some c) {N:Nat} (hN:fn.ntmps=N) (hn:args.length≤N)
  (hp:args.all (AV.inn nk)=true)
  (h:∀ w0 F0 fp pg,Holds B g ⟨w0,F0,N,fp,nk,pg,[]⟩→W P ⟨w0,F0,N,fp,nk,pg,[]⟩ c ⟨number 0 args,M,nk⟩ (QFinM P fn ⟨w0,F0,N,fp,nk,pg,[]⟩ res M' nk')):Cto B g P f args M nk res M' nk':=by
 intro w G vs hB hlo hO hl hR
 subst hN
 refine calls_of_wp hf hb ?_
 have hH:Holds B g ⟨w,G.F,fn.ntmps,fpM G M,nk,G,[]⟩:=⟨fun w2 F2 k1 k2=>hS.2 w w2 G.F F2 (fun i hi=>k1.block i (jr hi (hS.1 w G.F hB)) fun h=>by have:=hlo i h;omega) k2 hB,fun x hx=>hx.elim (fun h=>iD (hS.1 w G.F hB) h) (hlo x)⟩
 have h1:=h w G.F (fpM G M) G hH G { tmps:=vs.toArray++Array.replicate (fn.ntmps - vs.toArray.size) undef,defers:=[] } w
  ⟨by simp;omega,⟨rfl,Nat.le_refl _,fun k _=>⟨rfl,rfl,rfl⟩⟩,fun i av hx=>by
   obtain ⟨_,h2⟩:=look_number args 0 i av hx
   simp only [EW] at h2
   have hi:i < args.length:=(List.getElem?_eq_some_iff.1 h2).1
   have hv:i < vs.length:=by omega
   refine ⟨by show i < fn.ntmps;omega,inn_bd (List.all_eq_true.1 hp av (aY h2)),hR i av _ h2 ?_⟩
   simp [bV,yL,hv],
   Kept.refl _ _,hO.fw,fun _ _ h=>h,fun _ _ h=>.inl h,hO.ob,(fun k o x h1 h2=>⟨.inr ⟨k,o,h1,h2⟩,hO.my k o x h1 h2⟩),hO.dj,hO.dF⟩
 refine wp_mono h1 fun e a w' ⟨σ,G1,⟨he,hfin⟩,ok⟩=>?_
 obtain ⟨v,G',hr,ok',hbd,hres⟩:=hfin G1 a w' ok
 have fin:∃ v' G'',Ending.returned v=.returned v'∧Kept (fpM G M) w w'∧View.le G.F G''.F∧(∀ p u,G''.F p=some u→G.F p=some u∨w.heap.size≤p.block∨fpM G M p.block)∧Obs G'' w' M' nk' ∧
   (∀ k o x,look k M'=some o→G''.fp k x→w.heap.size≤x∨fpM G M x)∧(∀ k,k < nk→G''.b k=G.b k∧G''.n k=G.n k∧G''.h k=G.h k)∧nk≤nk'∧Bd nk' res∧R G'' res v' :=
  ⟨v,G',rfl,ok'.bel,ok'.f0,ok'.f1,⟨ok'.fw,ok'.ob,fun k o x h1 h2=>(ok'.my k o x h1 h2).2,ok'.dj,ok'.dF⟩,fun k o x h1 h2=>(ok'.my k o x h1 h2).1,ok'.df.2.2,ok'.df.2.1,hbd,hres⟩
 rcases he with rfl|rfl
 ·exact ⟨ok'.df.1,v,hr,fin⟩
 ·exact ⟨ok'.df.1,v,hr,fin⟩
section
variable {P:Program} {C:Cx} {σ:St} {G:Gh} {a:Act} {w:World}
theorem resV_R (ok:Ok C σ G a w) {r:ResultVar} {av:AV} (h:resV P σ r=some av)(hp:ownB av=false):∃ v,(resOne a.tmps r).run P w=.ok v w∧R G av v∧Bd σ.nk av:=by
 cases r with
 | tmp t=>exact⟨a.tmps.getD t undef,rfl,(ok.tm t _ h).2.2,(ok.tm t _ h).2.1⟩
 | cell t T =>
  simp only [resV] at h
  split at h
  ·rename_i k ht
   split at h
   ·rename_i T' cells hk hT
    split at h
    ·rename_i n hn
     cases hb:Nat.beq cells.length n with
     | false=>rw [hb] at h;cases h
     | true =>
      rw [hb] at h
      cases h
      obtain⟨p,ep,p1,p2,p3⟩:=(ok.tm t _ ht).2.2.pt_of
      obtain⟨_,hbd,g3,cs,Φ,g4,g5,_,_,g6⟩:=ok.ob k _ hk
      obtain rfl:=addr_eq p1 p2 p3
      rw [uG,mJ] at ep
      have hown:=ownB_all hp
      refine⟨.agg cs,?_,.ag _ _ g5 fun i av u x y=>(g6 i av u x y).r (by simpa using List.all_eq_true.1 hown av (aY x)),.ag _ fun i av x=>hbd i av x⟩
      exact aiL
    ·cases h
   ·cases h
  ·cases h
theorem resL_R (ok:Ok C σ G a w):∀ {l:List ResultVar} {avs:List AV},resL P σ l=some avs→avs.all (fun av=>!ownB av)=true→∃ vs:List Value,(l.mapM (resOne a.tmps)).run P w=.ok vs w∧vs.length=avs.length∧(∀ (i:Nat)av u,avs[i]?=some av→vs[i]?=some u→R G av u)∧∀ (i:Nat)av,avs[i]?=some av→Bd σ.nk av
 | [],avs,h,_=>by cases h;exact ⟨[],rfl,rfl,fun i av u x=>by simp at x,fun i av x=>by simp at x⟩
 | r::l,avs,h,hp=>by
  cases h1:resV P σ r with
  | none=>simp only [resL,h1]at h;cases h
  | some x =>
  cases h2:resL P σ l with
  | none=>simp only [resL,h1,h2]at h;cases h
  | some y =>
   simp only [resL,h1,h2,Option.some.injEq]at h
   subst h
   simp only [List.all_cons,dw,dn]at hp
   obtain ⟨v,e1,e2,e3⟩:=resV_R ok h1 hp.1
   obtain ⟨vs,f1,f2,f3,f4⟩:=resL_R ok h2 hp.2
   refine ⟨v::vs,by simp [List.mapM_cons,Sem.run_bind,e1,f1,Result.andThen],by simp [f2],fun i av u p q=>?_,fun i av p=>?_⟩
   ·cases i with
    | zero=>cases p;cases q;exact e2
    | succ i=>exact f3 i av u (by simpa using p) pF
   ·cases i with
    | zero=>cases p;exact e3
    | succ i=>exact f4 i av (by simpa using p)
def resT:List AV→AV
 | [x]=>x
 | l=>.tu l
theorem finM {fn:Func} {avs:List AV} {res:AV} {M':List (Nat×AO)} {nk':Nat} (h:resL P σ fn.results.toList=some avs) (hp:avs.all (fun av=>!ownB av)=true) (e:resT avs=res) (hM:σ.M=M') (hk:σ.nk=nk'):QFinM P fn C res M' nk' .ret σ:=by
 refine ⟨.inr rfl,fun G a w ok=>?_⟩
 subst e hM hk
 obtain ⟨vs,e1,e2,e3,e4⟩:=resL_R ok h hp
 have er:results fn a.tmps=(do let vs ← fn.results.mapM (resOne a.tmps);pure (if h:vs.size=1 then vs[0] else .tuple vs)):=rfl
 have run:(results fn a.tmps).run P w=.ok (if h:vs.toArray.size=1 then vs.toArray[0] else .tuple vs.toArray) w:=by
  simp_all[Array.mapM_eq_mapM_toList]
 have okE:Ok C ⟨[],σ.M,σ.nk⟩ G a w:=⟨ok.sz,ok.df,fun i av h=>(by cases h),ok.bel,ok.fw,ok.f0,ok.f1,ok.ob,ok.my,ok.dj,ok.dF⟩
 cases avs with
 | nil =>
  cases vs with
  | nil=>exact ⟨.tuple #[],G,run,okE,.tu _ fun i x hx=>by simp at hx,.tu _ _ rfl fun i av u x=>by simp at x⟩
  | cons v us=>cases e2
 | cons x r =>
  cases vs with
  | nil=>cases e2
  | cons v us =>
   cases r with
   | nil =>
    cases us with
    | nil=>exact ⟨v,G,run,okE,e4 0 x rfl,e3 0 x v rfl rfl⟩
    | cons u us=>cases e2
   | cons y r =>
    cases us with
    | nil=>cases e2
    | cons u us =>
     refine ⟨.tuple (v::u::us).toArray,G,?_,okE,.tu _ e4,.tu _ _ (by simpa using e2) fun i av u' p q=>e3 i av u' p pF⟩
     simp_all
end
theorem R.un0 {G:Gh} {ρ:Nat→Nat} {nk:Nat} {av:AV} {v:Value} (h:av.in0 nk=true) (r:R (G.ren ρ) av v):R G (av.ren0 ρ) v:=by
 cases av with
 | pt k i j=>obtain ⟨p,rfl,a,b,c⟩:=r.pt_of;exact .pt _ i j p a b c
 | sl k=>obtain ⟨rfl,b⟩:=r.sl_of;exact R.sl (G:=G) (ρ k) b
 | sc x=>rw [r.sc_eq];exact .pu _ _ (.sc x)
 | ls n rows=>exact .pu _ _ (show RP G.F _ _ from r.pu_of)
 | pr cells=>exact .pu _ _ (show RP G.F _ _ from r.pr_of)
 | ow T n rows=>exact r.no_ow.elim
 | _=>cases h
theorem R.un1 {G:Gh} {ρ:Nat→Nat} {nk:Nat} {av:AV} {v:Value} (h:av.in1 nk=true) (r:R (G.ren ρ) av v):R G (av.ren1 ρ) v:=by
 cases av with
 | fn f l =>
  obtain ⟨cs,rfl,h1,h2⟩:=r.fn_of
  refine .fn f _ cs pz fun i av u x y=>?_
  rw [bC] at x
  cases hq:l[i]? with
  | none=>simp [hq] at x
  | some b=>simp [hq] at x;rw [← x];exact R.un0 (List.all_eq_true.1 h b (aY hq)) (h2 i b u hq y)
 | ag l=>cases h
 | tu l=>cases h
 | pt k i j=>exact R.un0 (av:=.pt k i j) (nk:=nk) h r
 | sl k=>exact R.un0 (av:=.sl k) (nk:=nk) h r
 | sc x=>exact R.un0 (av:=.sc x) (nk:=nk) h r
 | ls n rows=>exact R.un0 (av:=.ls n rows) (nk:=nk) h r
 | ow T n rows=>exact R.un0 (av:=.ow T n rows) (nk:=nk) h r
 | pr cells=>exact R.un0 (av:=.pr cells) (nk:=nk) h r
theorem R.un2 {G:Gh} {ρ:Nat→Nat} {nk:Nat} {av:AV} {v:Value} (h:av.in2 nk=true) (r:R (G.ren ρ) av v):R G (av.ren2 ρ) v:=by
 cases av with
 | ag l =>
  obtain ⟨cs,rfl,h1,h2⟩:=r.ag_of
  refine .ag _ cs pz fun i av u x y=>?_
  rw [bC] at x
  cases hq:l[i]? with
  | none=>simp [hq] at x
  | some b=>simp [hq] at x;rw [← x];exact R.un1 (List.all_eq_true.1 h b (aY hq)) (h2 i b u hq y)
 | tu l=>cases h
 | fn f l=>exact R.un1 (av:=.fn f l) (nk:=nk) h r
 | pt k i j=>exact R.un1 (av:=.pt k i j) (nk:=nk) h r
 | sl k=>exact R.un1 (av:=.sl k) (nk:=nk) h r
 | sc x=>exact R.un1 (av:=.sc x) (nk:=nk) h r
 | ls n rows=>exact R.un1 (av:=.ls n rows) (nk:=nk) h r
 | ow T n rows=>exact R.un1 (av:=.ow T n rows) (nk:=nk) h r
 | pr cells=>exact R.un1 (av:=.pr cells) (nk:=nk) h r
theorem R.un {G:Gh} {ρ:Nat→Nat} {nk:Nat} {av:AV} {v:Value} (h:av.inn nk=true) (r:R (G.ren ρ) av v):R G (av.ren ρ) v:=by
 cases av with
 | tu l =>
  obtain ⟨cs,rfl,h1,h2⟩:=r.tu_of
  refine .tu _ cs pz fun i av u x y=>?_
  rw [bC] at x
  cases hq:l[i]? with
  | none=>simp [hq] at x
  | some b=>simp [hq] at x;rw [← x];exact R.un2 (List.all_eq_true.1 h b (aY hq)) (h2 i b u hq y)
 | ag l=>exact R.un2 (av:=.ag l) (nk:=nk) h r
 | fn f l=>exact R.un2 (av:=.fn f l) (nk:=nk) h r
 | pt k i j=>exact R.un2 (av:=.pt k i j) (nk:=nk) h r
 | sl k=>exact R.un2 (av:=.sl k) (nk:=nk) h r
 | sc x=>exact R.un2 (av:=.sc x) (nk:=nk) h r
 | ls n rows=>exact R.un2 (av:=.ls n rows) (nk:=nk) h r
 | ow T n rows=>exact R.un2 (av:=.ow T n rows) (nk:=nk) h r
 | pr cells=>exact R.un2 (av:=.pr cells) (nk:=nk) h r
theorem CR.un {G:Gh} {w:World} {ρ:Nat→Nat} {nk:Nat} {φ:Nat→Prop} {av:AV} {v:Value} (h:av.in1 nk=true)(r:CR (G.ren ρ) w φ av v):CR G w φ (av.ren1 ρ) v:=by
 rcases r with r|o
 ·exact .inl (R.un1 h r)
 ·by_cases ho:av.own=true
  ·exact UF
  ·exact .inl (R.un1 h (.pu _ _ (OW.p o (by simpa using ho))))
theorem ObAt.un {G:Gh} {w:World} {ρ:Nat→Nat} {nk k:Nat} {ob:AO} (h:ob.inn nk=true) (g:ObAt (G.ren ρ) w k ob):ObAt G w (ρ k) (ob.ren ρ):=by
 cases ob with
 | box T cells =>
  obtain ⟨b1,cs,Φ,b2,b3,b4,b5,b6⟩:=g
  refine ⟨b1,cs,Φ,b2,by simpa using b3,b4,b5,fun i av u x y=>?_⟩
  rw [bC] at x
  cases hq:cells[i]? with
  | none=>simp [hq] at x
  | some b=>simp [hq] at x;rw [← x];exact CR.un (List.all_eq_true.1 h b (aY hq)) (b6 i b u hq y)
 | row T n rows=>exact g
 | rwn T n rows=>exact g
 | rof T n rows hi hj y =>
  obtain ⟨g1,g2,g3⟩:=g
  refine ⟨g1,g2,g3.keep (fun _ _=>rfl) fun i r j av ψ u _ _ _ x=>?_⟩
  unfold XH at x ⊢
  exact aeT
 | rwo T n rows hi hj y =>
  obtain ⟨g1,g2,g3⟩:=g
  refine ⟨g1,g2,g3.keep (fun _ _=>rfl) fun i r j av ψ u _ _ _ x=>?_⟩
  unfold XQ at x ⊢
  exact aeT
 | bld T e l=>exact g
 | opq q=>exact g
def rhoC(ks:List Nat)(nk m q:Nat):Nat:=bif Nat.blt q nk then ks.getD q 0 else m+(q-nk)
def idx (q:Nat):List Nat→Option Nat
 | []=>none
 | x::r=>bif Nat.beq q x then some 0 else (idx q r).map (·+1)
theorem idx_some {q:Nat}:∀ {l:List Nat} {i:Nat},idx q l=some i→l[i]?=some q
 | [],i,h=>by cases h
 | x::r,i,h=>by
  unfold idx at h
  cases hb:Nat.beq q x with
  | true=>grind[dQ]
  | false =>
   rw [hb]at h
   simp only [cond_false]at h
   obtain⟨j,h1,rfl⟩:=Option.map_eq_some_iff.1 h
   simpa using idx_some h1
def remL {α:Type} (ks:List Nat)(M:List (Nat×α)):List (Nat×α):=ks.foldr (fun k r=>rem k r) M
theorem look_remL {α:Type} (i:Nat):∀ (ks:List Nat)(M:List (Nat×α)),look i (remL ks M)=if i∈ks then none else look i M
 | [],M=>by simp [remL]
 | k::r,M=>by
  show look i (rem k (remL r M))=_
  rw [look_rem,look_remL i r M]
  grind
def renM (ρ:Nat→Nat):List (Nat×AO)→List (Nat×AO)
 | []=>[]
 | x::r=>(ρ x.1,x.2.ren ρ)::renM ρ r
theorem look_app_ {α:Type} (i:Nat):∀ (l r:List (Nat×α)),look i (l++r)=(look i l).or (look i r)
 | [],r=>by simp [look]
 | x::l,r=>by
  by_cases e:i=x.1
  ·simp_all[look]
  ·rw [Ja,show look i (x::(l++r))=look i (l++r)from look_set_other e,show look i (x::l)=look i l from look_set_other e]
   exact look_app_ i l r
theorem look_renM {ρ:Nat→Nat} {q:Nat} {o:AO}:∀ {M:List (Nat×AO)},(∀ x∈M,∀ y∈M,ρ x.1=ρ y.1→x.1=y.1)→look q (renM ρ M)=some o→∃ i ob,q=ρ i∧look i M=some ob∧o=ob.ren ρ
 | [],_,h=>by cases h
 | x::r,hi,h=>by
  by_cases e:q=ρ x.1
  ·grind[renM,look_set_same]
  ·rw [show look q (renM ρ (x::r))=look q (renM ρ r) from look_set_other e] at h
   obtain⟨i,ob,e1,e2,e3⟩:=look_renM (fun y hy z hz=>hi y qV z (by simp [hz])) h
   grind[look_set_other]
theorem AO.ren_bd {ρ:Nat→Nat} {nk nk2:Nat} {ob:AO} (h:ob.inn nk=true)(hρ:∀ i,i<nk→ρ i<nk2):(ob.ren ρ).bd nk2:=by
 have r0:∀ av:AV,av.in0 nk=true→Bd nk2 (av.ren0 ρ):=fun av h=>by
  cases av with
  | sc v=>exact .sc v
  | ls n rows=>exact .ls n rows
  | ow T n rows=>exact .ow T n rows
  | pr cells=>exact .pr cells
  | pt k i j=>exact .pt _ i j (hρ k (of_blt h))
  | sl k=>exact .sl _ (hρ k (of_blt h))
  | _=>cases h
 have r1:∀ b:AV,b.in1 nk=true→Bd nk2 (b.ren1 ρ):=fun b hb=>by
  cases b with
  | fn f l =>
   refine .fn f _ fun j x hx=>?_
   rw [bC] at hx
   cases hq2:l[j]? with
   | none=>simp_all
   | some c=>simp [hq2] at hx;rw [← hx];exact r0 c (List.all_eq_true.1 hb c (aY hq2))
  | ag l=>cases hb
  | tu l=>cases hb
  | sc v=>exact r0 (.sc v) hb
  | ls n rows=>exact r0 (.ls n rows) hb
  | ow T n rows=>exact r0 (.ow T n rows) hb
  | pr cells=>exact r0 (.pr cells) hb
  | pt k i j=>exact r0 (.pt k i j) hb
  | sl k=>exact r0 (.sl k) hb
 cases ob with
 | box T cells =>
  intro i av hx
  have hx:(cells.map (AV.ren1 ρ))[i]?=some av:=hx
  rw [bC] at hx
  cases hq:cells[i]? with
  | none=>simp_all
  | some b =>
   simp [hq] at hx
   rw [← hx]
   exact r1 b (List.all_eq_true.1 h b (aY hq))
 | row T n rows=>trivial
 | rwn T n rows=>trivial
 | rof T n rows hi hj y=>exact r1 y h
 | rwo T n rows hi hj y=>exact r1 y h
 | bld T e l=>trivial
 | opq q=>trivial
theorem AV.ren_bd {ρ:Nat→Nat} {nk nk2:Nat} {av:AV} (h:av.inn nk=true) (hρ:∀ i,i<nk→ρ i<nk2):Bd nk2 (av.ren ρ):=by
 have r1:∀ av:AV,av.in1 nk=true→Bd nk2 (av.ren1 ρ):=fun av h=>by
  have:=AO.ren_bd (ob:=.box 0 [av]) (ρ:=ρ) (nk:=nk) (nk2:=nk2) (by grind[AO.inn]) hρ
  exact this 0 _ rfl
 have r2:∀ av:AV,av.in2 nk=true→Bd nk2 (av.ren2 ρ):=fun av h=>by
  cases av with
  | ag l =>
   refine .ag _ fun j x hx=>?_
   rw [bC] at hx
   cases hq2:l[j]? with
   | none=>simp_all
   | some c=>simp [hq2] at hx;rw [← hx];exact r1 c (List.all_eq_true.1 h c (aY hq2))
  | fn f l=>exact r1 (.fn f l) h
  | tu l=>cases h
  | sc v=>exact r1 (.sc v) h
  | ls n rows=>exact r1 (.ls n rows) h
  | ow T n rows=>exact r1 (.ow T n rows) h
  | pr cells=>exact r1 (.pr cells) h
  | pt k i j=>exact r1 (.pt k i j) h
  | sl k=>exact r1 (.sl k) h
 cases av with
 | tu l =>
  refine .tu _ fun j x hx=>?_
  rw [bC] at hx
  cases hq2:l[j]? with
  | none=>simp_all
  | some c=>simp [hq2] at hx;rw [← hx];exact r2 c (List.all_eq_true.1 h c (aY hq2))
 | ag l=>exact r2 (.ag l) h
 | fn f l=>exact r2 (.fn f l) h
 | sc v=>exact r2 (.sc v) h
 | ls n rows=>exact r2 (.ls n rows) h
 | ow T n rows=>exact r2 (.ow T n rows) h
 | pr cells=>exact r2 (.pr cells) h
 | pt k i j=>exact r2 (.pt k i j) h
 | sl k=>exact r2 (.sl k) h
def ksB (ks:List Nat)(nk m:Nat):Bool:=Nat.beq ks.length nk && injB id ks && nodB ks && ks.all (fun k=>Nat.blt k m)
where nodB : List Nat → Bool
  | [] => true
  | x :: r => !(r.any fun y => Nat.beq x y) && nodB r
theorem nod_of:∀ {ks:List Nat},ksB.nodB ks=true→ks.Nodup
 | [],_=>List.nodup_nil
 | x::r,h=>by
  simp only [ksB.nodB,dw,dn,List.any_eq_false]at h
  exact List.nodup_cons.2 ⟨fun hx=>h.1 x hx (Nat.beq_refl x),nod_of h.2⟩
theorem idx_of {q:Nat}:∀ {l:List Nat} {i:Nat},l.Nodup→l[i]?=some q→idx q l=some i
 | [],i,_,h=>by simp at h
 | x::r,0,_,h=>by simp_all[idx]
 | x::r,i+1,hn,h=>by
  have h:r[i]?=some q:=by simp_all
  have hne:q≠x:=fun e=>(List.nodup_cons.1 hn).1 (e ▸ aY h)
  have hb:Nat.beq q x=false:=by
   grind[dQ]
  unfold idx
  rw [hb]
  simp only [cond_false]
  rw [idx_of (List.nodup_cons.1 hn).2 h];rfl
section
variable {B:World→View→Prop} {gl:Nat} {P:Program} {C:Cx} {σ:St} {G:Gh} {a:Act} {w w':World}
theorem Ok.cto (ok:Ok C σ G a w) {ks:List Nat} {M M':List (Nat×AO)} {nk nk':Nat} {G':Gh} (hks:ksB ks nk σ.nk=true) (hM:∀ k o,look k M=some o→k<nk∧∃ o2,look (ks.getD k 0) σ.M=some o2)
  (hMk:∀ x,fpM (G.ren (rhoC ks nk σ.nk)) M x→∃ k o,k<nk∧look (ks.getD k 0) σ.M=some o∧G.fp (ks.getD k 0) x)
  (hkept:Kept (fpM (G.ren (rhoC ks nk σ.nk)) M) w w') (hF:View.le G.F G'.F) (hnew:∀ p u,G'.F p=some u→G.F p=some u∨w.heap.size≤p.block∨fpM (G.ren (rhoC ks nk σ.nk)) M p.block) (hO:Obs G' w' M' nk')
  (hmy:∀ k o x,look k M'=some o→G'.fp k x→w.heap.size≤x∨fpM (G.ren (rhoC ks nk σ.nk)) M x) (hpin:∀ k,k<nk→G'.b k=(G.ren (rhoC ks nk σ.nk)).b k∧G'.n k=(G.ren (rhoC ks nk σ.nk)).n k∧G'.h k=(G.ren (rhoC ks nk σ.nk)).h k) (hle:nk≤nk')
  (hinn:M'.all (fun x=>x.2.inn nk')=true) (hkm:M'.all (fun x=>Nat.blt x.1 nk')=true) :
  ∃ G'',Ok C ⟨σ.t,renM (rhoC ks nk σ.nk) M'++remL ks σ.M,σ.nk+(nk'-nk)⟩ G'' a w'∧∀ av v,av.inn nk'=true→R G' av v→R G'' (av.ren (rhoC ks nk σ.nk)) v:=by
 simp only [ksB,dw] at hks
 obtain ⟨⟨⟨hk1,_⟩,hk3⟩,hk4⟩:=hks
 have hlen:=dQ hk1
 have hnod:=nod_of hk3
 have hlt:∀ i,i<nk→ks.getD i 0<σ.nk:=fun i hi=>by
  exact ajk
 have hat:∀ i,i<nk→ks[i]?=some (ks.getD i 0):=fun i hi=>by
  exact afx
 let ρ:=rhoC ks nk σ.nk
 have rlo:∀ i,i<nk→ρ i=ks.getD i 0:=fun i hi=>by
  exact afp
 have rhi:∀ i,nk≤i→ρ i=σ.nk+(i-nk):=fun i hi=>by
  show (bif Nat.blt i nk then _ else _)=_
  rw [show Nat.blt i nk=false from by
   cases h:Nat.blt i nk with
   | false=>rfl
   | true=>exact absurd (of_blt h) aj];rfl
 let G'':Gh:=⟨G'.F,fun q=>if σ.nk≤q then G'.b (q-σ.nk+nk) else G.b q,fun q=>if σ.nk≤q then G'.n (q-σ.nk+nk) else G.n q,fun q=>if σ.nk≤q then G'.h (q-σ.nk+nk) else G.h q,
  fun q=>if σ.nk≤q then G'.fp (q-σ.nk+nk) else match idx q ks with
   | some i=>G'.fp i
   | none=>G.fp q⟩
 have hGle:G.le G'' σ.nk:=⟨hF,fun q hq=>if_neg aj,fun q hq=>if_neg aj,fun q hq=>if_neg aj⟩
 have hren:G'.le (G''.ren ρ) nk':=by
  refine ⟨fun _ _ h=>h,fun i hi=>?_,fun i hi=>?_,fun i hi=>?_⟩
  all_goals
   show (if σ.nk≤ρ i then _ else _)=_
   by_cases h:i<nk
   ·rw [rlo i h,if_neg (by have:=hlt i h;omega)]
    first
     |exact (by rw [(hpin i h).1];show _=G.b (ρ i);rw [rlo i h])
     |exact (by rw [(hpin i h).2.1];show _=G.n (ρ i);rw [rlo i h])
     |exact (by rw [(hpin i h).2.2];show _=G.h (ρ i);rw [rlo i h])
   ·exact ad8
 have hrfp:∀ i,i<nk'→(G''.ren ρ).fp i=G'.fp i:=fun i hi=>by
  show (if σ.nk≤ρ i then _ else _)=_
  by_cases h:i<nk
  ·rw [rlo i h,if_neg (by have:=hlt i h;omega)]
   show (match idx (ks.getD i 0) ks with
    | some i=>G'.fp i
    | none=>G.fp (ks.getD i 0))=_
   rw [idx_of hnod (hat i h)]
  ·exact ad8
 have hρlt:∀ i,i<nk'→ρ i<σ.nk+(nk'-nk):=fun i hi=>by
  by_cases h:i<nk
  ·rw [rlo i h];have:=hlt i h;omega
  ·rw [rhi i (by omega)];omega
 have hρinj:∀ i j,ρ i=ρ j→i<nk'→j<nk'→i=j:=fun i j e hi hj=>by
  by_cases h:i<nk<;>by_cases h':j<nk
  ·rw [rlo i h,rlo j h'] at e
   have h1:=idx_of hnod (hat i h)
   have h2:=idx_of hnod (hat j h')
   rw [e,h2] at h1
   exact (Option.some.inj h1).symm
  ·rw [rlo i h,rhi j (by omega)] at e;have:=hlt i h;omega
  ·rw [rhi i (by omega),rlo j h'] at e;have:=hlt j h';omega
  ·rw [rhi i (by omega),rhi j (by omega)] at e;omega
 have kin:∀ x∈M',x.1<nk':=fun x hx=>of_blt (List.all_eq_true.1 hkm x hx)
 have lookM:∀ k o,look k (renM ρ M'++remL ks σ.M)=some o→(∃ i ob,k=ρ i∧look i M'=some ob∧o=ob.ren ρ∧i<nk'∧ob.inn nk'=true)∨(¬ k∈ks∧look k σ.M=some o∧k<σ.nk):=fun k o h=>by
  rw [look_app_] at h
  cases h1:look k (renM ρ M') with
  | some o1 =>
   rw [h1] at h
   simp only [Option.some_or,Option.some.injEq] at h
   subst h
   obtain ⟨i,ob,e1,e2,e3⟩:=look_renM (fun x hx y hy e=>hρinj _ _ e (kin x hx) (kin y hy)) h1
   have hx:i∈M'.map (·.1):=look_mem e2
   obtain ⟨y,hy,hyi⟩:=List.mem_map.1 hx
   have hi:i<nk':=by rw [← hyi];exact kin y hy
   refine .inl ⟨i,ob,e1,e2,e3,hi,?_⟩
   have:∀ {l:List (Nat×AO)},look i l=some ob→∃ z∈l,z.2=ob:=fun {l}=>by
    induction l with
    | nil=>intro h;cases h
    | cons z r ih =>
     intro h
     by_cases e:i=z.1
     ·rw [e,show look z.1 (z::r)=some z.2 from look_set_same] at h
      cases h
      exact ⟨z,by simp,rfl⟩
     ·rw [show look i (z::r)=look i r from look_set_other e] at h
      obtain ⟨z',h1,h2⟩:=ih h
      exact ⟨z',by simp [h1],h2⟩
   obtain ⟨z,hz,hz2⟩:=this e2
   rw [← hz2];exact List.all_eq_true.1 hinn z hz
  | none =>
   rw [h1] at h
   simp only [Option.none_or] at h
   rw [look_remL] at h
   by_cases e:k∈ks
   ·rw [if_pos e] at h;cases h
   ·rw [if_neg e] at h
    exact .inr ⟨e,h,(ok.ob k o h).1⟩
 have fpOut:∀ k,¬ k∈ks→k<σ.nk→G''.fp k=G.fp k:=fun k h1 h2=>by
  show (if σ.nk≤k then _ else _)=_
  rw [if_neg (by omega)]
  cases h3:idx k ks with
  | none=>rfl
  | some i=>exact absurd (aY (idx_some h3)) h1
 have outS:∀ k o x,¬ k∈ks→look k σ.M=some o→G.fp k x→¬ fpM (G.ren (rhoC ks nk σ.nk)) M x:=fun k o x h1 h2 h3 h4=>by
  obtain ⟨i,o2,hi,h5,h6⟩:=hMk x h4
  have:=ok.dj k o _ o2 x h2 h5 h3 h6
  exact h1 (this ▸ aY (hat i hi))
 have fF:∀ p u,G.F p=some u→w'.heap[p.block]?=w.heap[p.block]?:=fun p u h=>hkept.block _ (cell_block (ok.fw p u h)) fun hx=>by
  obtain ⟨i,o2,hi,h5,h6⟩:=hMk _ hx
  exact ok.dF _ o2 _ p u h5 h6 h rfl
 have may_:∀ x,fpM (G.ren (rhoC ks nk σ.nk)) M x→C.may x∧x<w.heap.size:=fun x h=>by
  obtain ⟨i,o2,hi,h5,h6⟩:=hMk x h
  exact ok.my _ o2 x h5 h6
 have mayN:∀ x,w.heap.size≤x→C.may x:=fun x h=>.inl (iD ok.bel.size h)
 have fpN:∀ k o x,look k (renM ρ M'++remL ks σ.M)=some o→G''.fp k x→(∃ i ob,k=ρ i∧look i M'=some ob∧i<nk'∧G'.fp i x)∨(¬ k∈ks∧look k σ.M=some o∧k<σ.nk∧G.fp k x):=fun k o x h1 h2=>by
  rcases lookM k o h1 with⟨i,ob,e1,e2,e3,e4,e5⟩|⟨e1,e2,e3⟩
  ·refine .inl ⟨i,ob,e1,e2,e4,?_⟩
   have:=hrfp i e4
   rw [← this]
   show G''.fp (ρ i) x
   rw [← e1];exact h2
  ·rw [fpOut k e1 e3] at h2
   exact .inr ⟨e1,e2,e3,h2⟩
 refine ⟨G'',⟨ok.sz,⟨ok.df.1,iD ok.df.2.1 (Jc _ _),fun k hk=>?_⟩,fun i av x=>⟨(ok.tm i av x).1,(ok.tm i av x).2.1.mono (Jc _ _),(ok.tm i av x).2.2.mono hGle (ok.tm i av x).2.1⟩,
  ok.bel.on hkept fun x hx=>(may_ x hx).1,hO.fw,fun p u x=>hF p u (ok.f0 p u x),fun p u x=>?_,fun k o x=>?_,fun k o x h1 h2=>?_,fun k o k' o' x h1 h2 h3 h4=>?_,fun k o x p u h1 h2 h3=>?_⟩,fun av v hin hr=>?_⟩
 ·have hk2:=jr hk ok.df.2.1
  rw [hGle.b k hk2,hGle.n k hk2,hGle.h k hk2];exact ok.df.2.2 k hk
 ·rcases hnew p u x with h|h|h
  ·exact ok.f1 p u h
  ·exact .inr (mayN _ h)
  ·exact .inr (may_ _ h).1
 ·rcases lookM k o x with⟨i,ob,rfl,e2,rfl,e4,e5⟩|⟨e1,e2,e3⟩
  ·have h1:=hO.ob i ob e2
   have h2:ObAt (G''.ren ρ) w' i ob:=h1.2.2.keep hren h1.1 h1.2.1 (hrfp i e4) fun _ _=>rfl
   exact ⟨hρlt i e4,AO.ren_bd e5 hρlt,h2.un e5⟩
  ·have h1:=ok.ob k o e2
   exact ⟨jr e3 (Jc _ _),AO.bd_mono (Jc _ _) h1.2.1,h1.2.2.keep hGle h1.1 h1.2.1 (fpOut k e1 e3) fun y hy=>hkept.block y (ok.my k o y e2 hy).2 (outS k o y e1 e2 hy)⟩
 ·rcases fpN k o x h1 h2 with⟨i,ob,e1,e2,e4,e5⟩|⟨e1,e2,e3,e4⟩
  ·refine ⟨?_,hO.my i ob x e2 e5⟩
   rcases hmy i ob x e2 e5 with h|h
   ·exact mayN x h
   ·exact (may_ x h).1
  ·exact ⟨(ok.my k o x e2 e4).1,jr (ok.my k o x e2 e4).2 hkept.size⟩
 ·have cross:∀ i ob k o,look i M'=some ob→G'.fp i x→¬ k∈ks→look k σ.M=some o→G.fp k x→False:=fun i ob k o e2 e5 f1 f2 f4=>by
   rcases hmy i ob x e2 e5 with h|h
   ·have:=(ok.my k o x f2 f4).2;omega
   ·exact outS k o x f1 f2 f4 h
  rcases fpN k o x h1 h3 with⟨i,ob,e1,e2,e4,e5⟩|⟨e1,e2,e3,e4⟩
  ·rcases fpN k' o' x h2 h4 with⟨j,ob',f1,f2,f4,f5⟩|⟨f1,f2,f3,f4⟩
   ·rw [e1,f1,hO.dj i ob j ob' x e2 f2 e5 f5]
   ·exact (cross i ob k' o' e2 e5 f1 f2 f4).elim
  ·rcases fpN k' o' x h2 h4 with⟨j,ob',f1,f2,f4,f5⟩|⟨f1,f2,f3,f4⟩
   ·exact (cross j ob' k o f2 f5 e1 e2 e4).elim
   ·exact ok.dj k o k' o' x e2 f2 e4 f4
 ·rcases fpN k o x h1 h2 with⟨i,ob,e1,e2,e4,e5⟩|⟨e1,e2,e3,e4⟩
  ·exact hO.dF i ob x p u e2 e5 h3
  ·rcases hnew p u h3 with h|h|h
   ·exact ok.dF k o x p u e2 e4 h
   ·have:=(ok.my k o x e2 e4).2;omega
   ·intro e
    rw [e] at h
    exact outS k o x e1 e2 e4 h
 ·exact R.un hin (hr.mono hren (inn_bd hin))
theorem Ok.ctoC (ok:Ok C σ G a w) (hB:Holds B gl C) {f:FuncId} {args args':List AV} {res res':AV} {M M':List (Nat×AO)} {nk nk':Nat} (ks:List Nat) {vs:List Value} (hl:vs.length=args'.length) (hR:∀ (i:Nat) av u,args'[i]?=some av→vs[i]?=some u→R G av u)
  (h:Cto B gl P f args M nk res M' nk') (hks:ksB ks nk σ.nk=true) (ha:args.map (AV.ren (rhoC ks nk σ.nk))=args') (hp:args.all (AV.inn nk)=true) (hM:TrM σ (rhoC ks nk σ.nk) nk M)
  (hle:Nat.ble nk nk'=true) (hinn:M'.all (fun x=>x.2.inn nk')=true) (hkm:M'.all (fun x=>Nat.blt x.1 nk')=true) (hri:res.inn nk'=true) (hr:res.ren (rhoC ks nk σ.nk)=res') :
  Calls P f vs.toArray w fun e w1=>∃ v G'',e=.returned v∧Ok C ⟨σ.t,renM (rhoC ks nk σ.nk) M'++remL ks σ.M,σ.nk+(nk'-nk)⟩ G'' a w1∧R G'' res' v∧Bd (σ.nk+(nk'-nk)) res':=by
 subst hr
 have hks2:=hks
 simp only [ksB,dw] at hks2
 obtain ⟨⟨⟨hk1,_⟩,hk3⟩,hk4⟩:=hks2
 have hlen:=dQ hk1
 have hnod:=nod_of hk3
 have rlo:∀ i,i<nk→rhoC ks nk σ.nk i=ks.getD i 0:=fun i hi=>by
  exact afp
 have hat:∀ i,i<nk→ks[i]?=some (ks.getD i 0):=fun i hi=>by
  exact afx
 have hMat:∀ k o,look k M=some o→look (ks.getD k 0) σ.M=some (o.ren (rhoC ks nk σ.nk))∧o.inn nk=true∧k<nk:=fun k o h=>by
  exact adZ
 have hMk:∀ x,fpM (G.ren (rhoC ks nk σ.nk)) M x→∃ k o,k<nk∧look (ks.getD k 0) σ.M=some o∧G.fp (ks.getD k 0) x:=fun x ⟨k,o,h1,h2⟩=>by
  exact adr
 have hO:Obs (G.ren (rhoC ks nk σ.nk)) w M nk:=by
  exact aiK
 have hcalls:=h w (G.ren (rhoC ks nk σ.nk)) vs (hB.1 w G.F ok.bel ok.f0) (fun x hx=>by
   obtain ⟨k,o,_,h1,h2⟩:=hMk x hx
   exact hB.2 x (ok.my _ o x h1 h2).1) hO (by rw [hl,← ha];simp) fun i av u p q=>by
  have:args'[i]?=some (av.ren (rhoC ks nk σ.nk)):=by rw [← ha,bC,p];rfl
  exact R.ren_ (List.all_eq_true.1 hp av (aY p)) (hR i _ u this q)
 refine hcalls.mono fun e w1 ⟨v,G',he,q1,q2,q3,q4,q5,q6,q7,q8,q9⟩=>?_
 obtain ⟨G'',ok',hres⟩:=ok.cto (M:=M) (M':=M') hks (fun k o h=>⟨(hMat k o h).2.2,_,(hMat k o h).1⟩) hMk q1 q2 q3 q4 q5 q6 (aP hle) hinn hkm
 refine ⟨v,G'',he,ok',hres res v hri q9,AV.ren_bd hri fun i hi=>?_⟩
 show rhoC ks nk σ.nk i<σ.nk+(nk'-nk)
 by_cases h:i<nk
 ·rw [rlo i h]
  have:ks.getD i 0<σ.nk:=by
   exact ajk
  omega
 ·show (bif Nat.blt i nk then _ else _)<_
  rw [show Nat.blt i nk=false from by
   cases h2:Nat.blt i nk with
   | false=>rfl
   | true=>exact absurd (of_blt h2) h]
  show σ.nk+(i-nk)<_
  omega
def fnOf:AV→Option (FuncId×List AV)
 | .fn f l=>bif Nat.blt f 1000000 then some (f,l) else none
 | .sc (.func (.func f) ⟨[]⟩ ⟨[]⟩)=>some (f,[])
 | _=>none
theorem fnOf_of {av:AV} {f:FuncId} {caps:List AV} {v:Value} (h:fnOf av=some (f,caps))(r:R G av v):∃ cs:Array Value,v=.func (.func f) #[] cs∧cs.size=caps.length∧∀ (i:Nat) av u,caps[i]?=some av→cs[i]?=some u→R G av u:=by
 unfold fnOf at h
 split at h
 ·rename_i g l
  cases hb:Nat.blt g 1000000 with
  | false=>rw [hb] at h;cases h
  | true =>
   rw [hb] at h
   cases h
   obtain⟨cs,e,q⟩:=r.fn_of
   exact⟨cs,by rw [e,fnV_lo hb],q⟩
 ·cases h
  exact⟨#[],r.sc_eq,rfl,fun i av u x=>by simp⟩
 grind
theorem call_wp {f:FuncId} {o:Oper} {y:Operand} {xs:Array Operand} {ts:Array TypeId} {cs:Array Value} {R':Ending→World→Prop} {N:Act→World→Prop} {Q':Exit→Act→World→Prop} (ho:o.op=.call { callee:=.value y,args:=xs,argTypes:=ts })(hc:∀ vs w,(callFunc f vs).run P w=.ok (.enter f vs) w)
  (ey:a.eval y=.func (.func f) #[] cs)(h:Calls P f (xs.toList.map a.eval++cs.toList).toArray w R')(hN:∀ e w1,R' e w1→∃ v,e=.returned v∧N (a.put o.dst v) w1):o.wp P a w N Q':=by
 refine fU ?_
 have e3:(#[]++xs.map a.eval++cs:Array Value)=(xs.toList.map a.eval++cs.toList).toArray:=by simp
 simp only [ho,resolve,ey,Deferred.ofValue,invoke,Sem.run_bind,Sem.run_pure,Result.andThen_ok,hc,Oper.upon,e3]
 refine h.mono fun e w1 hr=>?_
 grind
theorem Ok.evl2(ok:Ok C σ G a w) {xs:Array Operand} {args0 caps args':List AV} {cs:Array Value} (hx:σ.evs xs.toList=some args0)(h1:cs.size=caps.length)(h2:∀ (i:Nat)av u,caps[i]?=some av→cs[i]?=some u→R G av u)(ha:args0++caps=args') :
  (xs.toList.map a.eval++cs.toList).length=args'.length∧∀ (i:Nat)av u,args'[i]?=some av→(xs.toList.map a.eval++cs.toList)[i]?=some u→R G av u:=by
 obtain⟨e1,e2⟩:=ok.evl hx
 grind
theorem WO.cto (hB:Holds B gl C) {f:FuncId} {o:Oper} {y:Operand} {fv:AV} {xs:Array Operand} {ts:Array TypeId} {args args0 caps args':List AV} {res res':AV} {M M':List (Nat×AO)} {nk nk':Nat} (ks:List Nat)(ho:o.op=.call { callee:=.value y,args:=xs,argTypes:=ts })(hc:∀ vs w,(callFunc f vs).run P w=.ok (.enter f vs) w)
  (hy:σ.ev y=some fv)(hf:fnOf fv=some (f,caps))(hx:σ.evs xs.toList=some args0)(hcat:args0++caps=args')(h:Cto B gl P f args M nk res M' nk')(hks:ksB ks nk σ.nk=true)(ha:args.map (AV.ren (rhoC ks nk σ.nk))=args')(hp:args.all (AV.inn nk)=true)(hM:TrM σ (rhoC ks nk σ.nk) nk M)
  (hle:Nat.ble nk nk'=true)(hinn:M'.all (fun x=>x.2.inn nk')=true)(hkm:M'.all (fun x=>Nat.blt x.1 nk')=true)(hri:res.inn nk'=true)(hr:res.ren (rhoC ks nk σ.nk)=res')(hd:dstOk C.N o.dst=true) :
  WO P C o σ ((⟨σ.t,renM (rhoC ks nk σ.nk) M'++remL ks σ.M,σ.nk+(nk'-nk)⟩:St).set o.dst res'):=by
 intro G a w ok N Q' hN
 obtain⟨cs,ey,h1,h2⟩:=fnOf_of hf (ok.evr hy).2
 obtain⟨hl,hR⟩:=ok.evl2 hx h1 h2 hcat
 refine call_wp ho hc ey (ok.ctoC hB ks hl hR h hks ha hp hM hle hinn hkm hri hr) fun e w1⟨v,G'',he,ok',hr',hb⟩=>⟨v,he,hN _ _ _ (ok'.set hr' hb (dstOk_of hd))⟩
theorem WV.callV (hB:Holds B gl C) {f:FuncId} {o:Oper} {y:Operand} {fv:AV} {xs:Array Operand} {ts:Array TypeId} {args0 caps args':List AV} {res:AV} (ho:o.op=.call { callee:=.value y,args:=xs,argTypes:=ts }) (hc:∀ vs w,(callFunc f vs).run P w=.ok (.enter f vs) w)
  (hy:σ.ev y=some fv) (hf:fnOf fv=some (f,caps)) (hx:σ.evs xs.toList=some args0) (hcat:args0++caps=args') (hp:args'.all AV.pu2=true) (h:Ctg B P f args' res):WV P C o σ res:=by
 intro G a w ok N Q' hN
 obtain ⟨cs,ey,h1,h2⟩:=fnOf_of hf (ok.evr hy).2
 obtain ⟨hl,hR⟩:=ok.evl2 hx h1 h2 hcat
 refine call_wp ho hc ey (h w G.F _ (hB.1 w G.F ok.bel ok.f0) ok.fw ⟨hl,fun i av u p q=>(pu2_bd (List.all_eq_true.1 hp av (aY p)) 0).rp (hR i av u p q)⟩) fun e w1 ⟨v,F',he,hb,q1,q2,q3,q4⟩=>?_
 exact ⟨v,he,hN v _ w1 (fun σ'' a'' ok''=>ok''.called hb q1 q2 q3) (.pu _ _ q4) (q4.bd _)⟩
theorem WV.mkf {f:FuncId} {o:Oper} {xs:Array Operand} {caps:List AV} (ho:o.op=.makeFunc (.func f) #[] xs)(hx:σ.evs xs.toList=some caps)(hf:Nat.blt f 1000000=true:=by rfl):WV P C o σ (.fn f caps) :=
 WV.val (fun G a w ok=>.fn f _ fun i x hx2=>by
  have:∀ {xs:List Operand} {l:List AV},σ.evs xs=some l→∀ (i:Nat) x,l[i]?=some x→Bd σ.nk x:=fun {xs}=>by
   induction xs with
   | nil=>intro l h i x hx;cases h;grind
   | cons y r ih =>
    intro l h i x hx
    unfold St.evs at h
    cases h1:σ.ev y with
    | none=>simp_all
    | some av =>
     cases h2:σ.evs r with
     | none=>simp_all
     | some l' =>
      simp [h1,h2] at h
      subst h
      cases i with
      | zero=>cases hx;exact (ok.evr h1).1
      | succ i=>grind
  exact this hx i x hx2) fun G a w ok=>by
  obtain⟨e1,e2⟩:=ok.evl hx
  refine⟨fnV f (xs.map a.eval),by unfold execOp;rw [fnV_lo hf];simp [ho,Instr.makeFunc],.fn f _ _ (by simpa using e1) fun i av u p q=>e2 i av u p (by rw [← q];simp)⟩
theorem WV.nch {o:Oper} {x:Operand} {k i j:Nat} (ho:o.op=.nilCheck x)(hx:σ.ev x=some (.pt k i j)):WV P C o σ (.pt k i j) :=
 WV.val (fun G a w ok=>(ok.evr hx).1) fun G a w ok=>by
  obtain⟨p,ep,p1,p2,p3⟩:=(ok.evr hx).2.pt_of
  exact⟨_,by simp_all[execOp],.pt k i j p p1 p2 p3⟩
end
section
variable {B:World→View→Prop} {gl:Nat} {P:Program} {C:Cx} {ops:Array Oper} {o:Oper} {rest:List Oper} {Q:Exit→St→Prop} {d:Tmp}
def calE (σ:St):Op→Option (FuncId×List AV)
 | .call { callee:=.value y,args:=⟨xs⟩,argTypes:=_ } =>
  match σ.ev y,σ.evs xs with
  | some fv,some args0 =>
   match fnOf fv with
   | some (f,caps)=>some (f,args0++caps)
   | none=>none
  | _,_=>none
 | _=>none
theorem WL.cto (hB:Holds B gl C) {f:FuncId} {args args':List AV} {res res':AV} {M M' M2:List (Nat×AO)} {nk nk' n2:Nat} {t:List (Nat×AV)} {M0:List (Nat×AO)} {n0:Nat} (ks:List Nat) (hg:o.guard=none) (he:calE ⟨t,M0,n0⟩ o.op=some (f,args')) (hc:∀ vs w,(callFunc f vs).run P w=.ok (.enter f vs) w)
  (h:Cto B gl P f args M nk res M' nk') (hks:ksB ks nk n0=true) (ha:args.map (AV.ren (rhoC ks nk n0))=args') (hp:args.all (AV.inn nk)=true) (hM:TrM ⟨t,M0,n0⟩ (rhoC ks nk n0) nk M)
  (hq:(Nat.ble nk nk' && M'.all (fun x=>x.2.inn nk') && M'.all (fun x=>Nat.blt x.1 nk') && res.inn nk' && dstOk C.N o.dst)=true) (hr:res.ren (rhoC ks nk n0)=res') (hM2:renM (rhoC ks nk n0) M'++remL ks M0=M2) (hn2:n0+(nk' - nk)=n2)
  (k:WL P C ops rest ((⟨t,M2,n2⟩:St).set o.dst res') Q):WL P C ops (o::rest) ⟨t,M0,n0⟩ Q:=by
 subst hM2 hn2
 simp only [dw] at hq
 refine WL.op hg ?_ k
 unfold calE at he
 split at he
 ·rename_i y xs ts ho
  split at he
  ·rename_i fv args0 hy hx
   split at he
   ·rename_i f' caps hf
    cases he
    exact WO.cto (σ:=⟨t,M0,n0⟩) (xs:=⟨xs⟩) hB ks ho hc hy hf hx rfl h hks ha hp hM hq.1.1.1.1 hq.1.1.1.2 hq.1.1.2 hq.1.2 hr hq.2
   simp_all
  simp_all
 simp_all
end
end Go.Proofs.YthohlofpphjofaaGreatDoor
