/- A walk that knows values as trees: contracts that take objects and hand objects back. -/
import Derived.Test.YthohlofpphjofaaGreatDoorEZLq
set_option linter.unusedVariables false
set_option linter.unusedSimpArgs false
namespace Go.Proofs.YthohlofpphjofaaGreatDoor
open Go.RowKit
section
variable {p:Prop}
theorem am5(h:p:=by
 by_cases e:i=hi/\j=hj
 .rw [if_pos e] at x ⊢;exact R.un1 h x
 exact abQ):p:=h
theorem amc(h:p:=by rw [rhi i (by omega),if_pos (by omega),show σ.nk+(i-nk)-σ.nk+nk=i by omega]):p:=h
theorem al1(h:p:=by
 obtain ⟨h1,h2,h3⟩:=hM.at_ k o h;rw [XU k h3] at h1;exact ⟨h1,h2,h3⟩):p:=h
theorem alp(h:p:=by
 obtain ⟨h3,_,h4⟩:=aeR k o h1;have h2:G.fp (rhoC ks nk σ.nk k) x:=h2;rw [XU k h4] at h2;exact ⟨k,_,h4,h3,h2⟩):p:=h
theorem abK(h:p:=by rw [dL,aO (by omega)];rfl):p:=h
theorem alk(h:p:=by
 rw [dL,aO (by omega)];exact dn (List.all_eq_true.1 hk4 _ (gB _))):p:=h
theorem anJ(h:p:=by
 show (bif Nat.blt i nk then _ else _)=_;rw [show Nat.blt i nk=true from pY hi];rfl):p:=h
theorem ar8(h:p:=by
 refine ⟨ok.fw,λk o h=>?_,λk o x h1 h2=>?_,λk o k' o' x h1 h2 h3 h4=>?_,λk o x p u h1 h2 h3=>?_⟩
 .obtain ⟨h1,h2,h3⟩:=hM.at_ k o h;have g:=(ok.ob _ _ h1).2.2;exact ⟨h3,(o8.ren h2 g).1,(o8.ren h2 g).2⟩
 .obtain ⟨h3,_,_⟩:=hM.at_ k o h1;exact (ok.my _ _ x h3 h2).2
 .obtain ⟨f1,_,f2⟩:=hM.at_ k o h1;obtain ⟨f3,_,f4⟩:=hM.at_ k' o' h2;have:=ok.dj _ _ _ _ x f1 f3 h3 h4;rw [XU k f2,XU k' f4] at this;have g1:=Gu Zz (hat k f2);have g2:=Gu Zz (hat k' f4);rw [this,g2] at g1;exact (Option.some.inj g1).symm
 .obtain ⟨f1,_,_⟩:=hM.at_ k o h1;exact ok.dF _ _ x p u f1 h2 h3):p:=h
end
def yE (G:Gh)(M:List (Nat×AO))(x:Nat):Prop:=∃ k o,look k M=some o/\G.fp k x
structure Y6 (G:Gh)(w:World)(M:List (Nat×AO))(nk:Nat):Prop where
 fw:∀ p u,G.F p=some u->w.cell? p=some u
 ob:∀ k o,look k M=some o->k<nk/\o.bd nk/\o8 G w k o
 my:∀ k o x,look k M=some o->G.fp k x->x<w.heap.size
 dj:∀ k o k' o' x,look k M=some o->look k' M=some o'->G.fp k x->G.fp k' x->k=k'
 dF:∀ k o x p u,look k M=some o->G.fp k x->G.F p=some u->p.block≠x
def jr (B:World->View->Prop)(g:Nat)(P:Program)(f:FuncId)(args:List AV)(M:List (Nat×AO))(nk:Nat)(res:AV)(M':List (Nat×AO))(bP:Nat):Prop :=∀ (w:World)(G:Gh)(vs:List Value),B w G.F->(∀ x,yE G M x->g<=x)->Y6 G w M nk->vs.length=args.length->(∀ (i:Nat) av u,args[i]?=some av->vs[i]?=some u->R G av u) ->Calls P f vs.toArray w λe w'=>∃ v G',e=.returned v/\Kept (yE G M) w w'/\View.le G.F G'.F/\(∀ p u,G'.F p=some u->G.F p=some u\/w.heap.size<=p.block\/yE G M p.block)/\Y6 G' w' M' bP /\(∀ k o x,look k M'=some o->G'.fp k x->w.heap.size<=x\/yE G M x)/\(∀ k,k<nk->G'.b k=G.b k/\G'.n k=G.n k/\G'.h k=G.h k)/\nk<=bP/\Bd bP res/\R G' res v
def nR (P:Program) (fn:Func) (C:Cx) (res:AV) (M':List (Nat×AO)) (bP:Nat):Exit->St->Prop:=λe σ=>(e=.normal\/e=.ret) /\∀ G a w,Ok C σ G a w->∃ v G',(results fn a.tmps).run P w=.ok v w/\Ok C ⟨[],M',bP⟩ G' a w/\Bd bP res/\R G' res v
theorem jr.intro {B:World->View->Prop} {g:Nat} (hS:RN B g) {P:Program} {f:FuncId} {fn:Func} {c:Code} {args:List AV} {M:List (Nat×AO)} {nk:Nat} {res:AV} {M':List (Nat×AO)} {bP:Nat} (hf:P.funcs[f]?=some fn) (hb:fn.body=some c) {N:Nat} (hN:fn.ntmps=N) (hn:args.length<=N)(hp:args.all (AV.inn nk)=true)(h:∀ w0 F0 fp pg,Holds B g ⟨w0,F0,N,fp,nk,pg,[]⟩->W P ⟨w0,F0,N,fp,nk,pg,[]⟩ c ⟨number 0 args,M,nk⟩ (nR P fn ⟨w0,F0,N,fp,nk,pg,[]⟩ res M' bP)):jr B g P f args M nk res M' bP:=by
 intro w G vs hB hlo hO hl hR;subst hN;refine calls_of_wp hf hb ?_;have hH:Holds B g ⟨w,G.F,fn.ntmps,yE G M,nk,G,[]⟩:=⟨λw2 F2 k1 k2=>hS.2 w w2 G.F F2 (λi hi=>k1.block i (oD hi (hS.1 w G.F hB)) λh=>by have:=hlo i h;omega) k2 hB,λx hx=>hx.elim (λh=>gX (hS.1 w G.F hB) h) (hlo x)⟩;have h1:=h w G.F (yE G M) G hH G { tmps:=vs.toArray++Array.replicate (fn.ntmps - vs.toArray.size) undef,defers:=[] } w ⟨by simp;omega,⟨rfl,Nat.le_refl _,λk _=>⟨rfl,rfl,rfl⟩⟩,λi av hx=>by
   obtain ⟨_,h2⟩:=kX args 0 i av hx;simp only [CP] at h2;have hi:i < args.length:=(List.getElem?_eq_some_iff.1 h2).1;have hv:i < vs.length:=by omega
   refine ⟨by show i < fn.ntmps;omega,Gv (List.all_eq_true.1 hp av (cZ h2)),hR i av _ h2 ?_⟩;simp [dU,FN,hv],Kept.refl _ _,hO.fw,λ_ _ h=>h,λ_ _ h=>.inl h,hO.ob,(λk o x h1 h2=>⟨.inr ⟨k,o,h1,h2⟩,hO.my k o x h1 h2⟩),hO.dj,hO.dF⟩;refine wp_mono h1 λe a w' ⟨σ,G1,⟨he,hfin⟩,ok⟩=>?_;obtain ⟨v,G',hr,ok',hbd,hres⟩:=hfin G1 a w' ok;have fin:∃ v' yu,Ending.returned v=.returned v'/\Kept (yE G M) w w'/\View.le G.F yu.F/\(∀ p u,yu.F p=some u->G.F p=some u\/w.heap.size<=p.block\/yE G M p.block)/\Y6 yu w' M' bP /\(∀ k o x,look k M'=some o->yu.fp k x->w.heap.size<=x\/yE G M x)/\(∀ k,k < nk->yu.b k=G.b k/\yu.n k=G.n k/\yu.h k=G.h k)/\nk<=bP/\Bd bP res/\R yu res v' :=⟨v,G',rfl,ok'.bel,ok'.f0,ok'.f1,⟨ok'.fw,ok'.ob,λk o x h1 h2=>(ok'.my k o x h1 h2).2,ok'.dj,ok'.dF⟩,λk o x h1 h2=>(ok'.my k o x h1 h2).1,ok'.df.2.2,ok'.df.2.1,hbd,hres⟩;rcases he with rfl|rfl;.exact ⟨ok'.df.1,v,hr,fin⟩
 .exact ⟨ok'.df.1,v,hr,fin⟩
section
variable {P:Program} {C:Cx} {σ:St} {G:Gh} {a:Act} {w:World}
theorem au5 (ok:Ok C σ G a w) {r:ResultVar} {av:AV} (h:resV P σ r=some av)(hp:ownB av=false):∃ v,(uS a.tmps r).run P w=.ok v w/\R G av v/\Bd σ.nk av:=by cases r with
 | tmp t=>exact⟨a.tmps.getD t undef,rfl,(ok.tm t _ h).2.2,(ok.tm t _ h).2.1⟩| cell t T =>
  simp only [resV] at h;split at h
  .rename_i k ht;split at h
   .rename_i T' cells hk hT;split at h
    .rename_i n hn;cases hb:Nat.beq cells.length n with
     | false=>rw [hb] at h;cases h| true =>
      rw [hb] at h;cases h;obtain⟨p,ep,p1,p2,p3⟩:=(ok.tm t _ ht).2.2.lu;obtain⟨_,hbd,g3,cs,Φ,g4,g5,_,_,g6⟩:=ok.ob k _ hk;obtain rfl:=addr_eq p1 p2 p3;rw [AP,oC] at ep;have hown:=Xr hp;refine⟨.agg cs,?_,.ag _ _ g5 λi av u x y=>(g6 i av u x y).r (by simpa using List.all_eq_true.1 hown av (cZ x)),.ag _ λi av x=>hbd i av x⟩;exact asa
    .cases h
   .cases h
  .cases h
theorem ajF (ok:Ok C σ G a w):∀ {l:List ResultVar} {aW:List AV},Af P σ l=some aW->aW.all (λav=>!ownB av)=true->∃ vs:List Value,(l.mapM (uS a.tmps)).run P w=.ok vs w/\vs.length=aW.length/\(∀ (i:Nat)av u,aW[i]?=some av->vs[i]?=some u->R G av u)/\∀ (i:Nat)av,aW[i]?=some av->Bd σ.nk av
 | [],aW,h,_=>by cases h;exact ⟨[],rfl,rfl,λi av u x=>by simp at x,λi av x=>by simp at x⟩| r::l,aW,h,hp=>by cases h1:resV P σ r with
  | none=>simp only [Af,h1]at h;cases h| some x =>cases h2:Af P σ l with
  | none=>simp only [Af,h1,h2]at h;cases h| some y =>
   simp only [Af,h1,h2,Option.some.injEq]at h;subst h;simp only [List.all_cons,gG,dP]at hp;obtain ⟨v,e1,e2,e3⟩:=au5 ok h1 hp.1;obtain ⟨vs,f1,f2,f3,f4⟩:=ajF ok h2 hp.2;refine ⟨v::vs,by simp [List.mapM_cons,Sem.run_bind,e1,f1,Result.andThen],by simp [f2],λi av u p q=>?_,λi av p=>?_⟩;.cases i with
    | zero=>cases p;cases q;exact e2| succ i=>exact f3 i av u (by simpa using p) wF
   .cases i with
    | zero=>cases p;exact e3| succ i=>exact f4 i av (by simpa using p)
def resT:List AV->AV
 | [x]=>x| l=>.tu l
theorem BN {fn:Func} {aW:List AV} {res:AV} {M':List (Nat×AO)} {bP:Nat} (h:Af P σ fn.results.toList=some aW) (hp:aW.all (λav=>!ownB av)=true) (e:resT aW=res) (hM:σ.M=M') (hk:σ.nk=bP):nR P fn C res M' bP .ret σ:=by
 refine ⟨.inr rfl,λG a w ok=>?_⟩;subst e hM hk;obtain ⟨vs,e1,e2,e3,e4⟩:=ajF ok h hp;have er:results fn a.tmps=(do let vs ← fn.results.mapM (uS a.tmps);pure (if h:vs.size=1 then vs[0] else .tuple vs)):=rfl;have run:(results fn a.tmps).run P w=.ok (if h:vs.toArray.size=1 then vs.toArray[0] else .tuple vs.toArray) w:=by simp_all[Array.mapM_eq_mapM_toList]
 have okE:Ok C ⟨[],σ.M,σ.nk⟩ G a w:=⟨ok.sz,ok.df,λi av h=>(by cases h),ok.bel,ok.fw,ok.f0,ok.f1,ok.ob,ok.my,ok.dj,ok.dF⟩;cases aW with
 | nil =>cases vs with
  | nil=>exact ⟨.tuple #[],G,run,okE,.tu _ λi x hx=>by simp at hx,.tu _ _ rfl λi av u x=>by simp at x⟩| cons v us=>cases e2
 | cons x r =>cases vs with
  | nil=>cases e2| cons v us =>cases r with
   | nil =>cases us with
    | nil=>exact ⟨v,G,run,okE,e4 0 x rfl,e3 0 x v rfl rfl⟩| cons u us=>cases e2
   | cons y r =>cases us with
    | nil=>cases e2| cons u us =>
     refine ⟨.tuple (v::u::us).toArray,G,?_,okE,.tu _ e4,.tu _ _ (by simpa using e2) λi av u' p q=>e3 i av u' p wF⟩;simp_all
end
theorem R.un0 {G:Gh} {ρ:Nat->Nat} {nk:Nat} {av:AV} {v:Value} (h:av.in0 nk=true) (r:R (G.ren ρ) av v):R G (av.Fe ρ) v:=by cases av with
 | pt k i j=>obtain ⟨p,rfl,a,b,c⟩:=r.lu;exact .pt _ i j p a b c| sl k=>obtain ⟨rfl,b⟩:=r.lH;exact R.sl (G:=G) (ρ k) b| sc x=>rw [r.fM];exact .pu _ _ (.sc x)| ls n rows=>exact .pu _ _ (show RP G.F _ _ from r.E8)| pr cells=>exact .pu _ _ (show RP G.F _ _ from r.oO)| ow T n rows=>exact r.W9.elim| _=>cases h
theorem R.un1 {G:Gh} {ρ:Nat->Nat} {nk:Nat} {av:AV} {v:Value} (h:av.in1 nk=true) (r:R (G.ren ρ) av v):R G (av.rE ρ) v:=by cases av with
 | fn f l =>
  obtain ⟨cs,rfl,h1,h2⟩:=r.Cb;refine .fn f _ cs yh λi av u x y=>?_;rw [dw] at x;cases hq:l[i]? with
  | none=>simp [hq] at x| some b=>simp [hq] at x;rw [← x];exact R.un0 (List.all_eq_true.1 h b (cZ hq)) (h2 i b u hq y)
 | ag l=>cases h| tu l=>cases h| pt k i j=>exact R.un0 (av:=.pt k i j) (nk:=nk) h r| sl k=>exact R.un0 (av:=.sl k) (nk:=nk) h r| sc x=>exact R.un0 (av:=.sc x) (nk:=nk) h r| ls n rows=>exact R.un0 (av:=.ls n rows) (nk:=nk) h r| ow T n rows=>exact R.un0 (av:=.ow T n rows) (nk:=nk) h r| pr cells=>exact R.un0 (av:=.pr cells) (nk:=nk) h r
theorem R.un2 {G:Gh} {ρ:Nat->Nat} {nk:Nat} {av:AV} {v:Value} (h:av.in2 nk=true) (r:R (G.ren ρ) av v):R G (av.BP ρ) v:=by cases av with
 | ag l =>
  obtain ⟨cs,rfl,h1,h2⟩:=r.Ed;refine .ag _ cs yh λi av u x y=>?_;rw [dw] at x;cases hq:l[i]? with
  | none=>simp [hq] at x| some b=>simp [hq] at x;rw [← x];exact R.un1 (List.all_eq_true.1 h b (cZ hq)) (h2 i b u hq y)
 | tu l=>cases h| fn f l=>exact R.un1 (av:=.fn f l) (nk:=nk) h r| pt k i j=>exact R.un1 (av:=.pt k i j) (nk:=nk) h r| sl k=>exact R.un1 (av:=.sl k) (nk:=nk) h r| sc x=>exact R.un1 (av:=.sc x) (nk:=nk) h r| ls n rows=>exact R.un1 (av:=.ls n rows) (nk:=nk) h r| ow T n rows=>exact R.un1 (av:=.ow T n rows) (nk:=nk) h r| pr cells=>exact R.un1 (av:=.pr cells) (nk:=nk) h r
theorem R.un {G:Gh} {ρ:Nat->Nat} {nk:Nat} {av:AV} {v:Value} (h:av.inn nk=true) (r:R (G.ren ρ) av v):R G (av.ren ρ) v:=by cases av with
 | tu l =>
  obtain ⟨cs,rfl,h1,h2⟩:=r.Ym;refine .tu _ cs yh λi av u x y=>?_;rw [dw] at x;cases hq:l[i]? with
  | none=>simp [hq] at x| some b=>simp [hq] at x;rw [← x];exact R.un2 (List.all_eq_true.1 h b (cZ hq)) (h2 i b u hq y)
 | ag l=>exact R.un2 (av:=.ag l) (nk:=nk) h r| fn f l=>exact R.un2 (av:=.fn f l) (nk:=nk) h r| pt k i j=>exact R.un2 (av:=.pt k i j) (nk:=nk) h r| sl k=>exact R.un2 (av:=.sl k) (nk:=nk) h r| sc x=>exact R.un2 (av:=.sc x) (nk:=nk) h r| ls n rows=>exact R.un2 (av:=.ls n rows) (nk:=nk) h r| ow T n rows=>exact R.un2 (av:=.ow T n rows) (nk:=nk) h r| pr cells=>exact R.un2 (av:=.pr cells) (nk:=nk) h r
theorem CR.un {G:Gh} {w:World} {ρ:Nat->Nat} {nk:Nat} {φ:Nat->Prop} {av:AV} {v:Value} (h:av.in1 nk=true)(r:CR (G.ren ρ) w φ av v):CR G w φ (av.rE ρ) v:=by
 rcases r with r|o;.exact .inl (R.un1 h r)
 .by_cases ho:av.own=true;.exact abP
  .exact .inl (R.un1 h (.pu _ _ (OW.p o (by simpa using ho))))
theorem o8.un {G:Gh} {w:World} {ρ:Nat->Nat} {nk k:Nat} {ob:AO} (h:ob.inn nk=true) (g:o8 (G.ren ρ) w k ob):o8 G w (ρ k) (ob.ren ρ):=by cases ob with
 | box T cells =>
  obtain ⟨b1,cs,Φ,b2,b3,b4,b5,b6⟩:=g;refine ⟨b1,cs,Φ,b2,by simpa using b3,b4,b5,λi av u x y=>?_⟩;rw [dw] at x;cases hq:cells[i]? with
  | none=>simp [hq] at x| some b=>simp [hq] at x;rw [← x];exact CR.un (List.all_eq_true.1 h b (cZ hq)) (b6 i b u hq y)
 | row T n rows=>exact g| jO T n rows=>exact g| JU T n rows hi hj y =>
  obtain ⟨g1,g2,g3⟩:=g;refine ⟨g1,g2,g3.keep (λ_ _=>rfl) λi r j av ψ u _ _ _ x=>?_⟩;unfold XH at x ⊢;exact am5| rV T n rows hi hj y =>
  obtain ⟨g1,g2,g3⟩:=g;refine ⟨g1,g2,g3.keep (λ_ _=>rfl) λi r j av ψ u _ _ _ x=>?_⟩;unfold XQ at x ⊢;exact am5| vK T e l=>exact g| opq q=>exact g
def rhoC(ks:List Nat)(nk m q:Nat):Nat:=bif Nat.blt q nk then ks.getD q 0 else m+(q-nk)
def idx (q:Nat):List Nat->Option Nat
 | []=>none| x::r=>bif Nat.beq q x then some 0 else (idx q r).map (.+1)
theorem V4 {q:Nat}:∀ {l:List Nat} {i:Nat},idx q l=some i->l[i]?=some q
 | [],i,h=>by cases h| x::r,i,h=>by
  unfold idx at h;cases hb:Nat.beq q x with
  | true=>grind[dG]| false =>
   rw [hb]at h;simp only [cond_false]at h;obtain⟨j,h1,rfl⟩:=Option.map_eq_some_iff.1 h;simpa using V4 h1
def Fb {α:Type} (ks:List Nat)(M:List (Nat×α)):List (Nat×α):=ks.foldr (λk r=>rem k r) M
theorem P8 {α:Type} (i:Nat):∀ (ks:List Nat)(M:List (Nat×α)),look i (Fb ks M)=if i∈ks then none else look i M
 | [],M=>by simp [Fb]| k::r,M=>by
  show look i (rem k (Fb r M))=_;rw [mV,P8 i r M];grind
def DR (ρ:Nat->Nat):List (Nat×AO)->List (Nat×AO)
 | []=>[]| x::r=>(ρ x.1,x.2.ren ρ)::DR ρ r
theorem xG {α:Type} (i:Nat):∀ (l r:List (Nat×α)),look i (l++r)=(look i l).or (look i r)
 | [],r=>by simp [look]| x::l,r=>by
  by_cases e:i=x.1;.simp_all[look]
  .rw [QW,show look i (x::(l++r))=look i (l++r)from ah e,show look i (x::l)=look i l from ah e];exact xG i l r
theorem P9 {ρ:Nat->Nat} {q:Nat} {o:AO}:∀ {M:List (Nat×AO)},(∀ x∈M,∀ y∈M,ρ x.1=ρ y.1->x.1=y.1)->look q (DR ρ M)=some o->∃ i ob,q=ρ i/\look i M=some ob/\o=ob.ren ρ
 | [],_,h=>by cases h| x::r,hi,h=>by
  by_cases e:q=ρ x.1;.grind[DR,aB]
  .rw [show look q (DR ρ (x::r))=look q (DR ρ r) from ah e] at h;obtain⟨i,ob,e1,e2,e3⟩:=P9 (λy hy z hz=>hi y CY z (by simp [hz])) h;grind[ah]
theorem AO.TS {ρ:Nat->Nat} {nk nk2:Nat} {ob:AO} (h:ob.inn nk=true)(hρ:∀ i,i<nk->ρ i<nk2):(ob.ren ρ).bd nk2:=by
 have r0:∀ av:AV,av.in0 nk=true->Bd nk2 (av.Fe ρ):=λav h=>by cases av with
  | sc v=>exact .sc v| ls n rows=>exact .ls n rows| ow T n rows=>exact .ow T n rows| pr cells=>exact .pr cells| pt k i j=>exact .pt _ i j (hρ k (dn h))| sl k=>exact .sl _ (hρ k (dn h))| _=>cases h
 have r1:∀ b:AV,b.in1 nk=true->Bd nk2 (b.rE ρ):=λb hb=>by cases b with
  | fn f l =>
   refine .fn f _ λj x hx=>?_;rw [dw] at hx;cases hq2:l[j]? with
   | none=>simp_all| some c=>simp [hq2] at hx;rw [← hx];exact r0 c (List.all_eq_true.1 hb c (cZ hq2))
  | ag l=>cases hb| tu l=>cases hb| sc v=>exact r0 (.sc v) hb| ls n rows=>exact r0 (.ls n rows) hb| ow T n rows=>exact r0 (.ow T n rows) hb| pr cells=>exact r0 (.pr cells) hb| pt k i j=>exact r0 (.pt k i j) hb| sl k=>exact r0 (.sl k) hb
 cases ob with
 | box T cells =>
  intro i av hx;have hx:(cells.map (AV.rE ρ))[i]?=some av:=hx;rw [dw] at hx;cases hq:cells[i]? with
  | none=>simp_all| some b =>
   simp [hq] at hx;rw [← hx];exact r1 b (List.all_eq_true.1 h b (cZ hq))
 | row T n rows=>trivial| jO T n rows=>trivial| JU T n rows hi hj y=>exact r1 y h| rV T n rows hi hj y=>exact r1 y h| vK T e l=>trivial| opq q=>trivial
theorem AV.TS {ρ:Nat->Nat} {nk nk2:Nat} {av:AV} (h:av.inn nk=true) (hρ:∀ i,i<nk->ρ i<nk2):Bd nk2 (av.ren ρ):=by
 have r1:∀ av:AV,av.in1 nk=true->Bd nk2 (av.rE ρ):=λav h=>by
  have:=AO.TS (ob:=.box 0 [av]) (ρ:=ρ) (nk:=nk) (nk2:=nk2) (by grind[AO.inn]) hρ;exact this 0 _ rfl
 have r2:∀ av:AV,av.in2 nk=true->Bd nk2 (av.BP ρ):=λav h=>by cases av with
  | ag l =>
   refine .ag _ λj x hx=>?_;rw [dw] at hx;cases hq2:l[j]? with
   | none=>simp_all| some c=>simp [hq2] at hx;rw [← hx];exact r1 c (List.all_eq_true.1 h c (cZ hq2))
  | fn f l=>exact r1 (.fn f l) h| tu l=>cases h| sc v=>exact r1 (.sc v) h| ls n rows=>exact r1 (.ls n rows) h| ow T n rows=>exact r1 (.ow T n rows) h| pr cells=>exact r1 (.pr cells) h| pt k i j=>exact r1 (.pt k i j) h| sl k=>exact r1 (.sl k) h
 cases av with
 | tu l =>
  refine .tu _ λj x hx=>?_;rw [dw] at hx;cases hq2:l[j]? with
  | none=>simp_all| some c=>simp [hq2] at hx;rw [← hx];exact r2 c (List.all_eq_true.1 h c (cZ hq2))
 | ag l=>exact r2 (.ag l) h| fn f l=>exact r2 (.fn f l) h| sc v=>exact r2 (.sc v) h| ls n rows=>exact r2 (.ls n rows) h| ow T n rows=>exact r2 (.ow T n rows) h| pr cells=>exact r2 (.pr cells) h| pt k i j=>exact r2 (.pt k i j) h| sl k=>exact r2 (.sl k) h
def ksB (ks:List Nat)(nk m:Nat):Bool:=Nat.beq ks.length nk && ZF id ks && nodB ks && ks.all (λk=>Nat.blt k m)where nodB : List Nat -> Bool
  | [] => true| x :: r => !(r.any λy => Nat.beq x y) && nodB r
theorem Tt:∀ {ks:List Nat},ksB.nodB ks=true->ks.Nodup
 | [],_=>List.nodup_nil| x::r,h=>by
  simp only [ksB.nodB,gG,dP,List.any_eq_false]at h;exact List.nodup_cons.2 ⟨λhx=>h.1 x hx (Nat.beq_refl x),Tt h.2⟩
theorem Gu {q:Nat}:∀ {l:List Nat} {i:Nat},l.Nodup->l[i]?=some q->idx q l=some i
 | [],i,_,h=>by simp at h| x::r,0,_,h=>by simp_all[idx]| x::r,i+1,hn,h=>by
  have h:r[i]?=some q:=by simp_all
  have hne:q≠x:=λe=>(List.nodup_cons.1 hn).1 (e ▸ cZ h);have hb:Nat.beq q x=false:=by grind[dG]
  unfold idx;rw [hb];simp only [cond_false];rw [Gu (List.nodup_cons.1 hn).2 h];rfl
section
variable {B:World→View→Prop} {gl:Nat} {P:Program} {C:Cx} {σ:St} {G:Gh} {a:Act} {w w':World}
theorem Ok.qQ (ok:Ok C σ G a w) {ks:List Nat} {M M':List (Nat×AO)} {nk bP:Nat} {G':Gh} (hks:ksB ks nk σ.nk=true) (hM:∀ k o,look k M=some o->k<nk/\∃ o2,look (ks.getD k 0) σ.M=some o2)(hMk:∀ x,yE (G.ren (rhoC ks nk σ.nk)) M x->∃ k o,k<nk/\look (ks.getD k 0) σ.M=some o/\G.fp (ks.getD k 0) x)(hkept:Kept (yE (G.ren (rhoC ks nk σ.nk)) M) w w') (hF:View.le G.F G'.F) (hnew:∀ p u,G'.F p=some u->G.F p=some u\/w.heap.size<=p.block\/yE (G.ren (rhoC ks nk σ.nk)) M p.block) (hO:Y6 G' w' M' bP)(hmy:∀ k o x,look k M'=some o->G'.fp k x->w.heap.size<=x\/yE (G.ren (rhoC ks nk σ.nk)) M x) (atY:∀ k,k<nk->G'.b k=(G.ren (rhoC ks nk σ.nk)).b k/\G'.n k=(G.ren (rhoC ks nk σ.nk)).n k/\G'.h k=(G.ren (rhoC ks nk σ.nk)).h k) (hle:nk<=bP)(ahZ:M'.all (λx=>x.2.inn bP)=true) (hkm:M'.all (λx=>Nat.blt x.1 bP)=true) :∃ yu,Ok C ⟨σ.t,DR (rhoC ks nk σ.nk) M'++Fb ks σ.M,σ.nk+(bP-nk)⟩ yu a w'/\∀ av v,av.inn bP=true->R G' av v->R yu (av.ren (rhoC ks nk σ.nk)) v:=by
 simp only [ksB,gG] at hks;obtain ⟨⟨⟨hk1,_⟩,hk3⟩,hk4⟩:=hks;have hlen:=dG hk1;have Zz:=Tt hk3;have hlt:∀ i,i<nk->ks.getD i 0<σ.nk:=λi hi=>by exact alk
 have hat:∀ i,i<nk->ks[i]?=some (ks.getD i 0):=λi hi=>by exact abK
 let ρ:=rhoC ks nk σ.nk;have XU:∀ i,i<nk->ρ i=ks.getD i 0:=λi hi=>by exact anJ
 have rhi:∀ i,nk<=i->ρ i=σ.nk+(i-nk):=λi hi=>by
  show (bif Nat.blt i nk then _ else _)=_;rw [show Nat.blt i nk=false from by cases h:Nat.blt i nk with
   | false=>rfl| true=>exact absurd (dn h) au];rfl
 let yu:Gh:=⟨G'.F,λq=>if σ.nk<=q then G'.b (q-σ.nk+nk) else G.b q,λq=>if σ.nk<=q then G'.n (q-σ.nk+nk) else G.n q,λq=>if σ.nk<=q then G'.h (q-σ.nk+nk) else G.h q,λq=>if σ.nk<=q then G'.fp (q-σ.nk+nk) else match idx q ks with
   | some i=>G'.fp i| none=>G.fp q⟩;have ahM:G.le yu σ.nk:=⟨hF,λq hq=>if_neg au,λq hq=>if_neg au,λq hq=>if_neg au⟩;have aw9:G'.le (yu.ren ρ) bP:=by
  refine ⟨λ_ _ h=>h,λi hi=>?_,λi hi=>?_,λi hi=>?_⟩;all_goals
   show (if σ.nk<=ρ i then _ else _)=_;by_cases h:i<nk
   ·rw [XU i h,if_neg (by have:=hlt i h;omega)];first
     |exact (by rw [(atY i h).1];show _=G.b (ρ i);rw [XU i h])|exact (by rw [(atY i h).2.1];show _=G.n (ρ i);rw [XU i h])|exact (by rw [(atY i h).2.2];show _=G.h (ρ i);rw [XU i h])
   ·exact amc
 have axa:∀ i,i<bP->(yu.ren ρ).fp i=G'.fp i:=λi hi=>by
  show (if σ.nk<=ρ i then _ else _)=_;by_cases h:i<nk
  ·rw [XU i h,if_neg (by have:=hlt i h;omega)];show (match idx (ks.getD i 0) ks with
    | some i=>G'.fp i| none=>G.fp (ks.getD i 0))=_;rw [Gu Zz (hat i h)]
  ·exact amc
 have aqJ:∀ i,i<bP->ρ i<σ.nk+(bP-nk):=λi hi=>by
  by_cases h:i<nk;·rw [XU i h];have:=hlt i h;omega
  ·rw [rhi i (by omega)];omega
 have aub:∀ i j,ρ i=ρ j->i<bP->j<bP->i=j:=λi j e hi hj=>by
  by_cases h:i<nk<;>by_cases h':j<nk
  ·rw [XU i h,XU j h'] at e;have h1:=Gu Zz (hat i h);have h2:=Gu Zz (hat j h');rw [e,h2] at h1;exact (Option.some.inj h1).symm
  ·rw [XU i h,rhi j (by omega)] at e;have:=hlt i h;omega
  ·rw [rhi i (by omega),XU j h'] at e;have:=hlt j h';omega
  ·rw [rhi i (by omega),rhi j (by omega)] at e;omega
 have kin:∀ x∈M',x.1<bP:=λx hx=>dn (List.all_eq_true.1 hkm x hx);have aqP:∀ k o,look k (DR ρ M'++Fb ks σ.M)=some o->(∃ i ob,k=ρ i/\look i M'=some ob/\o=ob.ren ρ/\i<bP/\ob.inn bP=true)\/(¬ k∈ks/\look k σ.M=some o/\k<σ.nk):=λk o h=>by
  rw [xG] at h;cases h1:look k (DR ρ M') with
  | some o1 =>
   rw [h1] at h;simp only [Option.some_or,Option.some.injEq] at h;subst h;obtain ⟨i,ob,e1,e2,e3⟩:=P9 (λx hx y hy e=>aub _ _ e (kin x hx) (kin y hy)) h1;have hx:i∈M'.map (·.1):=EF e2;obtain ⟨y,hy,hyi⟩:=List.mem_map.1 hx;have hi:i<bP:=by rw [← hyi];exact kin y hy
   refine .inl ⟨i,ob,e1,e2,e3,hi,?_⟩;have:∀ {l:List (Nat×AO)},look i l=some ob->∃ z∈l,z.2=ob:=λ{l}=>by induction l with
    | nil=>intro h;cases h| cons z r ih =>
     intro h;by_cases e:i=z.1
     ·rw [e,show look z.1 (z::r)=some z.2 from aB] at h;cases h;exact ⟨z,by simp,rfl⟩
     ·rw [show look i (z::r)=look i r from ah e] at h;obtain ⟨z',h1,h2⟩:=ih h;exact ⟨z',by simp [h1],h2⟩
   obtain ⟨z,hz,hz2⟩:=this e2;rw [← hz2];exact List.all_eq_true.1 ahZ z hz| none =>
   rw [h1] at h;simp only [Option.none_or] at h;rw [P8] at h;by_cases e:k∈ks;·rw [if_pos e] at h;cases h
   ·rw [if_neg e] at h;exact .inr ⟨e,h,(ok.ob k o h).1⟩
 have aqz:∀ k,¬ k∈ks->k<σ.nk->yu.fp k=G.fp k:=λk h1 h2=>by
  show (if σ.nk<=k then _ else _)=_;rw [if_neg (by omega)];cases h3:idx k ks with
  | none=>rfl| some i=>exact absurd (cZ (V4 h3)) h1
 have auH:∀ k o x,¬ k∈ks->look k σ.M=some o->G.fp k x->¬ yE (G.ren (rhoC ks nk σ.nk)) M x:=λk o x h1 h2 h3 h4=>by
  obtain ⟨i,o2,hi,h5,h6⟩:=hMk x h4;have:=ok.dj k o _ o2 x h2 h5 h3 h6;exact h1 (this ▸ cZ (hat i hi))
 have fF:∀ p u,G.F p=some u->w'.heap[p.block]?=w.heap[p.block]?:=λp u h=>hkept.block _ (aQ (ok.fw p u h)) λhx=>by
  obtain ⟨i,o2,hi,h5,h6⟩:=hMk _ hx;exact ok.dF _ o2 _ p u h5 h6 h rfl
 have aus:∀ x,yE (G.ren (rhoC ks nk σ.nk)) M x->C.may x/\x<w.heap.size:=λx h=>by
  obtain ⟨i,o2,hi,h5,h6⟩:=hMk x h;exact ok.my _ o2 x h5 h6
 have axt:∀ x,w.heap.size<=x->C.may x:=λx h=>.inl (gX ok.bel.size h);have fpN:∀ k o x,look k (DR ρ M'++Fb ks σ.M)=some o->yu.fp k x->(∃ i ob,k=ρ i/\look i M'=some ob/\i<bP/\G'.fp i x)\/(¬ k∈ks/\look k σ.M=some o/\k<σ.nk/\G.fp k x):=λk o x h1 h2=>by
  rcases aqP k o h1 with⟨i,ob,e1,e2,e3,e4,e5⟩|⟨e1,e2,e3⟩
  ·refine .inl ⟨i,ob,e1,e2,e4,?_⟩;have:=axa i e4;rw [← this];show yu.fp (ρ i) x;rw [← e1];exact h2
  ·rw [aqz k e1 e3] at h2;exact .inr ⟨e1,e2,e3,h2⟩
 refine ⟨yu,⟨ok.sz,⟨ok.df.1,gX ok.df.2.1 (Ri _ _),λk hk=>?_⟩,λi av x=>⟨(ok.tm i av x).1,(ok.tm i av x).2.1.mono (Ri _ _),(ok.tm i av x).2.2.mono ahM (ok.tm i av x).2.1⟩,ok.bel.on hkept λx hx=>(aus x hx).1,hO.fw,λp u x=>hF p u (ok.f0 p u x),λp u x=>?_,λk o x=>?_,λk o x h1 h2=>?_,λk o k' o' x h1 h2 h3 h4=>?_,λk o x p u h1 h2 h3=>?_⟩,λav v hin hr=>?_⟩
 ·have hk2:=oD hk ok.df.2.1;rw [ahM.b k hk2,ahM.n k hk2,ahM.h k hk2];exact ok.df.2.2 k hk
 ·rcases hnew p u x with h|h|h;·exact ok.f1 p u h
  ·exact .inr (axt _ h)
  ·exact .inr (aus _ h).1
 ·rcases aqP k o x with⟨i,ob,rfl,e2,rfl,e4,e5⟩|⟨e1,e2,e3⟩
  ·have h1:=hO.ob i ob e2;have h2:o8 (yu.ren ρ) w' i ob:=h1.2.2.keep aw9 h1.1 h1.2.1 (axa i e4) λ_ _=>rfl;exact ⟨aqJ i e4,AO.TS e5 aqJ,h2.un e5⟩
  ·have h1:=ok.ob k o e2;exact ⟨oD e3 (Ri _ _),AO.RV (Ri _ _) h1.2.1,h1.2.2.keep ahM h1.1 h1.2.1 (aqz k e1 e3) λy hy=>hkept.block y (ok.my k o y e2 hy).2 (auH k o y e1 e2 hy)⟩
 ·rcases fpN k o x h1 h2 with⟨i,ob,e1,e2,e4,e5⟩|⟨e1,e2,e3,e4⟩
  ·refine ⟨?_,hO.my i ob x e2 e5⟩;rcases hmy i ob x e2 e5 with h|h;·exact axt x h
   ·exact (aus x h).1
  ·exact ⟨(ok.my k o x e2 e4).1,oD (ok.my k o x e2 e4).2 hkept.size⟩
 ·have cross:∀ i ob k o,look i M'=some ob->G'.fp i x->¬ k∈ks->look k σ.M=some o->G.fp k x->False:=λi ob k o e2 e5 f1 f2 f4=>by
   rcases hmy i ob x e2 e5 with h|h;·have:=(ok.my k o x f2 f4).2;omega
   ·exact auH k o x f1 f2 f4 h
  rcases fpN k o x h1 h3 with⟨i,ob,e1,e2,e4,e5⟩|⟨e1,e2,e3,e4⟩
  ·rcases fpN k' o' x h2 h4 with⟨j,ob',f1,f2,f4,f5⟩|⟨f1,f2,f3,f4⟩;·rw [e1,f1,hO.dj i ob j ob' x e2 f2 e5 f5]
   ·exact (cross i ob k' o' e2 e5 f1 f2 f4).elim
  ·rcases fpN k' o' x h2 h4 with⟨j,ob',f1,f2,f4,f5⟩|⟨f1,f2,f3,f4⟩;·exact (cross j ob' k o f2 f5 e1 e2 e4).elim
   ·exact ok.dj k o k' o' x e2 f2 e4 f4
 ·rcases fpN k o x h1 h2 with⟨i,ob,e1,e2,e4,e5⟩|⟨e1,e2,e3,e4⟩;·exact hO.dF i ob x p u e2 e5 h3
  ·rcases hnew p u h3 with h|h|h;·exact ok.dF k o x p u e2 e4 h
   ·have:=(ok.my k o x e2 e4).2;omega
   ·intro e;rw [e] at h;exact auH k o x e1 e2 e4 h
 ·exact R.un hin (hr.mono aw9 (Gv hin))
theorem Ok.awn (ok:Ok C σ G a w) (hB:Holds B gl C) {f:FuncId} {args args':List AV} {res res':AV} {M M':List (Nat×AO)} {nk bP:Nat} (ks:List Nat) {vs:List Value} (hl:vs.length=args'.length) (hR:∀ (i:Nat) av u,args'[i]?=some av->vs[i]?=some u->R G av u)(h:jr B gl P f args M nk res M' bP) (hks:ksB ks nk σ.nk=true) (ha:args.map (AV.ren (rhoC ks nk σ.nk))=args') (hp:args.all (AV.inn nk)=true) (hM:Vl σ (rhoC ks nk σ.nk) nk M)(hle:Nat.ble nk bP=true) (ahZ:M'.all (λx=>x.2.inn bP)=true) (hkm:M'.all (λx=>Nat.blt x.1 bP)=true) (hri:res.inn bP=true) (hr:res.ren (rhoC ks nk σ.nk)=res') :Calls P f vs.toArray w λe w1=>∃ v yu,e=.returned v/\Ok C ⟨σ.t,DR (rhoC ks nk σ.nk) M'++Fb ks σ.M,σ.nk+(bP-nk)⟩ yu a w1/\R yu res' v/\Bd (σ.nk+(bP-nk)) res':=by
 subst hr;have ah0:=hks;simp only [ksB,gG] at ah0;obtain ⟨⟨⟨hk1,_⟩,hk3⟩,hk4⟩:=ah0;have hlen:=dG hk1;have Zz:=Tt hk3;have XU:∀ i,i<nk->rhoC ks nk σ.nk i=ks.getD i 0:=λi hi=>by exact anJ
 have hat:∀ i,i<nk->ks[i]?=some (ks.getD i 0):=λi hi=>by exact abK
 have aeR:∀ k o,look k M=some o->look (ks.getD k 0) σ.M=some (o.ren (rhoC ks nk σ.nk))/\o.inn nk=true/\k<nk:=λk o h=>by exact al1
 have hMk:∀ x,yE (G.ren (rhoC ks nk σ.nk)) M x->∃ k o,k<nk/\look (ks.getD k 0) σ.M=some o/\G.fp (ks.getD k 0) x:=λx ⟨k,o,h1,h2⟩=>by exact alp
 have hO:Y6 (G.ren (rhoC ks nk σ.nk)) w M nk:=by exact ar8
 have qo:=h w (G.ren (rhoC ks nk σ.nk)) vs (hB.1 w G.F ok.bel ok.f0) (λx hx=>by
   obtain ⟨k,o,_,h1,h2⟩:=hMk x hx;exact hB.2 x (ok.my _ o x h1 h2).1) hO (by rw [hl,← ha];simp) λi av u p q=>by
  have:args'[i]?=some (av.ren (rhoC ks nk σ.nk)):=by rw [← ha,dw,p];rfl
  exact R.au4 (List.all_eq_true.1 hp av (cZ p)) (hR i _ u this q)
 refine qo.mono λe w1 ⟨v,G',he,q1,q2,q3,q4,q5,q6,q7,q8,q9⟩=>?_;obtain ⟨yu,ok',hres⟩:=ok.qQ (M:=M) (M':=M') hks (λk o h=>⟨(aeR k o h).2.2,_,(aeR k o h).1⟩) hMk q1 q2 q3 q4 q5 q6 (bG hle) ahZ hkm;refine ⟨v,yu,he,ok',hres res v hri q9,AV.TS hri λi hi=>?_⟩;show rhoC ks nk σ.nk i<σ.nk+(bP-nk);by_cases h:i<nk
 .rw [XU i h];have:ks.getD i 0<σ.nk:=by exact alk
  omega
 .show (bif Nat.blt i nk then _ else _)<_;rw [show Nat.blt i nk=false from by cases h2:Nat.blt i nk with
   | false=>rfl| true=>exact absurd (dn h2) h];show σ.nk+(i-nk)<_;omega
def aeI:AV->Option (FuncId×List AV)
 | .fn f l=>bif Nat.blt f 1000000 then some (f,l) else none| .sc (.func (.func f) ⟨[]⟩ ⟨[]⟩)=>some (f,[])| _=>none
theorem JK {av:AV} {f:FuncId} {caps:List AV} {v:Value} (h:aeI av=some (f,caps))(r:R G av v):∃ cs:Array Value,v=.func (.func f) #[] cs/\cs.size=caps.length/\∀ (i:Nat) av u,caps[i]?=some av->cs[i]?=some u->R G av u:=by
 unfold aeI at h;split at h
 .rename_i g l;cases hb:Nat.blt g 1000000 with
  | false=>rw [hb] at h;cases h| true =>
   rw [hb] at h;cases h;obtain⟨cs,e,q⟩:=r.Cb;exact⟨cs,by rw [e,Zj hb],q⟩
 .cases h;exact⟨#[],r.fM,rfl,λi av u x=>by simp⟩
 grind
theorem RZ {f:FuncId} {o:Oper} {y:Operand} {xs:Array Operand} {ts:Array TypeId} {cs:Array Value} {R':Ending->World->Prop} {N:Act->World->Prop} {Q':Exit->Act->World->Prop} (ho:o.op=.call { callee:=.value y,args:=xs,argTypes:=ts })(hc:∀ vs w,(callFunc f vs).run P w=.ok (.enter f vs) w)(ey:a.eval y=.func (.func f) #[] cs)(h:Calls P f (xs.toList.map a.eval++cs.toList).toArray w R')(hN:∀ e w1,R' e w1->∃ v,e=.returned v/\N (a.put o.dst v) w1):o.wp P a w N Q':=by
 refine lN ?_;have e3:(#[]++xs.map a.eval++cs:Array Value)=(xs.toList.map a.eval++cs.toList).toArray:=by simp
 simp only [ho,resolve,ey,Deferred.ofValue,invoke,Sem.run_bind,Sem.run_pure,Result.andThen_ok,hc,Oper.upon,e3];refine h.mono λe w1 hr=>?_;grind
theorem Ok.aom(ok:Ok C σ G a w) {xs:Array Operand} {qP caps args':List AV} {cs:Array Value} (hx:σ.evs xs.toList=some qP)(h1:cs.size=caps.length)(h2:∀ (i:Nat)av u,caps[i]?=some av->cs[i]?=some u->R G av u)(ha:qP++caps=args') :(xs.toList.map a.eval++cs.toList).length=args'.length/\∀ (i:Nat)av u,args'[i]?=some av->(xs.toList.map a.eval++cs.toList)[i]?=some u->R G av u:=by
 obtain⟨e1,e2⟩:=ok.evl hx;grind
theorem WO.qQ (hB:Holds B gl C) {f:FuncId} {o:Oper} {y:Operand} {fv:AV} {xs:Array Operand} {ts:Array TypeId} {args qP caps args':List AV} {res res':AV} {M M':List (Nat×AO)} {nk bP:Nat} (ks:List Nat)(ho:o.op=.call { callee:=.value y,args:=xs,argTypes:=ts })(hc:∀ vs w,(callFunc f vs).run P w=.ok (.enter f vs) w)(hy:σ.ev y=some fv)(hf:aeI fv=some (f,caps))(hx:σ.evs xs.toList=some qP)(Gt:qP++caps=args')(h:jr B gl P f args M nk res M' bP)(hks:ksB ks nk σ.nk=true)(ha:args.map (AV.ren (rhoC ks nk σ.nk))=args')(hp:args.all (AV.inn nk)=true)(hM:Vl σ (rhoC ks nk σ.nk) nk M)(hle:Nat.ble nk bP=true)(ahZ:M'.all (λx=>x.2.inn bP)=true)(hkm:M'.all (λx=>Nat.blt x.1 bP)=true)(hri:res.inn bP=true)(hr:res.ren (rhoC ks nk σ.nk)=res')(hd:Il C.N o.dst=true) :WO P C o σ ((⟨σ.t,DR (rhoC ks nk σ.nk) M'++Fb ks σ.M,σ.nk+(bP-nk)⟩:St).set o.dst res'):=by
 intro G a w ok N Q' hN;obtain⟨cs,ey,h1,h2⟩:=JK hf (ok.l9 hy).2;obtain⟨hl,hR⟩:=ok.aom hx h1 h2 Gt;refine RZ ho hc ey (ok.awn hB ks hl hR h hks ha hp hM hle ahZ hkm hri hr) λe w1⟨v,yu,he,ok',hr',hb⟩=>⟨v,he,hN _ _ _ (ok'.set hr' hb (zB hd))⟩
theorem WV.Ii (hB:Holds B gl C) {f:FuncId} {o:Oper} {y:Operand} {fv:AV} {xs:Array Operand} {ts:Array TypeId} {qP caps args':List AV} {res:AV} (ho:o.op=.call { callee:=.value y,args:=xs,argTypes:=ts }) (hc:∀ vs w,(callFunc f vs).run P w=.ok (.enter f vs) w)(hy:σ.ev y=some fv) (hf:aeI fv=some (f,caps)) (hx:σ.evs xs.toList=some qP) (Gt:qP++caps=args') (hp:args'.all AV.pu2=true) (h:jB B P f args' res):WV P C o σ res:=by
 intro G a w ok N Q' hN;obtain ⟨cs,ey,h1,h2⟩:=JK hf (ok.l9 hy).2;obtain ⟨hl,hR⟩:=ok.aom hx h1 h2 Gt;refine RZ ho hc ey (h w G.F _ (hB.1 w G.F ok.bel ok.f0) ok.fw ⟨hl,λi av u p q=>(qB (List.all_eq_true.1 hp av (cZ p)) 0).rp (hR i av u p q)⟩) λe w1 ⟨v,F',he,hb,q1,q2,q3,q4⟩=>?_;exact ⟨v,he,hN v _ w1 (λBX a'' DF=>DF.called hb q1 q2 q3) (.pu _ _ q4) (q4.bd _)⟩
theorem WV.mkf {f:FuncId} {o:Oper} {xs:Array Operand} {caps:List AV} (ho:o.op=.makeFunc (.func f) #[] xs)(hx:σ.evs xs.toList=some caps)(hf:Nat.blt f 1000000=true:=by rfl):WV P C o σ (.fn f caps) :=WV.val (λG a w ok=>.fn f _ λi x hx2=>by
  have:∀ {xs:List Operand} {l:List AV},σ.evs xs=some l->∀ (i:Nat) x,l[i]?=some x->Bd σ.nk x:=λ{xs}=>by induction xs with
   | nil=>intro l h i x hx;cases h;grind| cons y r ih =>
    intro l h i x hx;unfold St.evs at h;cases h1:σ.ev y with
    | none=>simp_all| some av =>cases h2:σ.evs r with
     | none=>simp_all| some l' =>
      simp [h1,h2] at h;subst h;cases i with
      | zero=>cases hx;exact (ok.l9 h1).1| succ i=>grind
  exact this hx i x hx2) λG a w ok=>by
  obtain⟨e1,e2⟩:=ok.evl hx;refine⟨fnV f (xs.map a.eval),by unfold execOp;rw [Zj hf];simp [ho,Instr.makeFunc],.fn f _ _ (by simpa using e1) λi av u p q=>e2 i av u p (by rw [← q];simp)⟩
theorem WV.IC {o:Oper} {x:Operand} {k i j:Nat} (ho:o.op=.nilCheck x)(hx:σ.ev x=some (.pt k i j)):WV P C o σ (.pt k i j) :=WV.val (λG a w ok=>(ok.l9 hx).1) λG a w ok=>by
  obtain⟨p,ep,p1,p2,p3⟩:=(ok.l9 hx).2.lu;exact⟨_,by simp_all[execOp],.pt k i j p p1 p2 p3⟩
end
section
variable {B:World→View→Prop} {gl:Nat} {P:Program} {C:Cx} {ops:Array Oper} {o:Oper} {rest:List Oper} {Q:Exit→St→Prop} {d:Tmp}
def Vq (σ:St):Op->Option (FuncId×List AV)
 | .call { callee:=.value y,args:=⟨xs⟩,argTypes:=_ } =>match σ.ev y,σ.evs xs with
  | some fv,some qP =>match aeI fv with
   | some (f,caps)=>some (f,qP++caps)| none=>none
  | _,_=>none
 | _=>none
theorem WL.qQ (hB:Holds B gl C) {f:FuncId} {args args':List AV} {res res':AV} {M M' M2:List (Nat×AO)} {nk bP n2:Nat} {t:List (Nat×AV)} {M0:List (Nat×AO)} {n0:Nat} (ks:List Nat) (hg:o.guard=none) (he:Vq ⟨t,M0,n0⟩ o.op=some (f,args')) (hc:∀ vs w,(callFunc f vs).run P w=.ok (.enter f vs) w)(h:jr B gl P f args M nk res M' bP) (hks:ksB ks nk n0=true) (ha:args.map (AV.ren (rhoC ks nk n0))=args') (hp:args.all (AV.inn nk)=true) (hM:Vl ⟨t,M0,n0⟩ (rhoC ks nk n0) nk M)(hq:(Nat.ble nk bP && M'.all (λx=>x.2.inn bP) && M'.all (λx=>Nat.blt x.1 bP) && res.inn bP && Il C.N o.dst)=true) (hr:res.ren (rhoC ks nk n0)=res') (hM2:DR (rhoC ks nk n0) M'++Fb ks M0=M2) (hn2:n0+(bP - nk)=n2)(k:WL P C ops rest ((⟨t,M2,n2⟩:St).set o.dst res') Q):WL P C ops (o::rest) ⟨t,M0,n0⟩ Q:=by
 subst hM2 hn2;simp only [gG] at hq;refine WL.op hg ?_ k;unfold Vq at he;split at he
 .rename_i y xs ts ho;split at he
  .rename_i fv qP hy hx;split at he
   .rename_i f' caps hf;cases he;exact WO.qQ (σ:=⟨t,M0,n0⟩) (xs:=⟨xs⟩) hB ks ho hc hy hf hx rfl h hks ha hp hM hq.1.1.1.1 hq.1.1.1.2 hq.1.1.2 hq.1.2 hr hq.2
   simp_all
  simp_all
 simp_all
end
end Go.Proofs.YthohlofpphjofaaGreatDoor
