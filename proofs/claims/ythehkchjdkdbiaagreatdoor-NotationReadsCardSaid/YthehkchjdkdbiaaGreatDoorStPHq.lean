/- Whether the cell of a stop is a text: the plain part. -/
import Derived.Test.YthehkchjdkdbiaaGreatDoorRMkHq
import Derived.Test.YthehkchjdkdbiaaGreatDoorPLgHq
set_option maxHeartbeats 4000000
set_option maxRecDepth 100000
set_option linter.unusedVariables false
set_option linter.unusedSimpArgs false
namespace Go.Proofs.YthehkchjdkdbiaaGreatDoor
section
open Go.RowKit
def newF(F:View)(w w':World):View:=fun p=>if p.block<w.heap.size then F p else w'.cell? p
theorem newF_le {F:View} {w w':World} (hF:∀ p u,F p=some u→w.cell? p=some u):View.le F (newF F w w'):=fun p u h=>by
 unfold newF
 rw [if_pos (cell_block (hF p u h))];exact h
theorem newF_fw {F:View} {w w':World} (hF:∀ p u,F p=some u→w.cell? p=some u)(hb:Below w.heap.size w w'):∀ p u,newF F w w' p=some u→w'.cell? p=some u:=fun p u h=>by
 unfold newF at h
 by_cases e:p.block<w.heap.size
 ·rw [if_pos e]at h;rw [hb.cell e];exact hF p u h
 ·rw [if_neg e]at h;exact h
theorem newF_new {F:View} {w w':World}:∀ p u,newF F w w' p=some u→F p=some u∨w.heap.size≤p.block:=fun p u h=>by
 unfold newF at h
 by_cases e:p.block<w.heap.size
 ·rw [if_pos e]at h;exact .inl h
 ·exact .inr zqo
end
section
open Go.RowKit
def fpM (G:Gh)(M:List (Nat×AO))(x:Nat):Prop:=∃ k o,look k M=some o∧G.fp k x
structure Obs (G:Gh)(w:World)(M:List (Nat×AO))(nk:Nat):Prop where
 fw:∀ p u,G.F p=some u→w.cell? p=some u
 ob:∀ k o,look k M=some o→k<nk∧o.bd nk∧ObAt G w k o
 my:∀ k o x,look k M=some o→G.fp k x→x<w.heap.size
 dj:∀ k o k' o' x,look k M=some o→look k' M=some o'→G.fp k x→G.fp k' x→k=k'
 dF:∀ k o x p u,look k M=some o→G.fp k x→G.F p=some u→p.block≠x
def Cto (B:World→View→Prop)(g:Nat)(P:Program)(f:FuncId)(args:List AV)(M:List (Nat×AO))(nk:Nat)(res:AV)(M':List (Nat×AO))(nk':Nat):Prop :=
 ∀ (w:World)(G:Gh)(vs:List Value),B w G.F→(∀ x,fpM G M x→g≤x)→Obs G w M nk→vs.length=args.length→(∀ (i:Nat) av u,args[i]?=some av→vs[i]?=some u→R G av u) →
  Calls P f vs.toArray w fun e w'=>∃ v G',e=.returned v∧Kept (fpM G M) w w'∧View.le G.F G'.F∧(∀ p u,G'.F p=some u→G.F p=some u∨w.heap.size≤p.block∨fpM G M p.block)∧Obs G' w' M' nk' ∧
   (∀ k o x,look k M'=some o→G'.fp k x→w.heap.size≤x∨fpM G M x)∧(∀ k,k<nk→G'.b k=G.b k∧G'.n k=G.n k∧G'.h k=G.h k)∧nk≤nk'∧Bd nk' res∧R G' res v
def QFinM (P:Program) (fn:Func) (C:Cx) (res:AV) (M':List (Nat×AO)) (nk':Nat):Exit→St→Prop:=fun e σ=>(e=.normal∨e=.ret) ∧
 ∀ G a w,Ok C σ G a w→∃ v G',(results fn a.tmps).run P w=.ok v w∧Ok C ⟨[],M',nk'⟩ G' a w∧Bd nk' res∧R G' res v
theorem Cto.intro {B:World→View→Prop} {g:Nat} (hS:Stab B g) {P:Program} {f:FuncId} {fn:Func} {c:Code} {args:List AV} {M:List (Nat×AO)} {nk:Nat} {res:AV} {M':List (Nat×AO)} {nk':Nat} (hf:P.funcs[f]?=some fn) (hb:fn.body=some c) {N:Nat} (hN:fn.ntmps=N) (hn:args.length≤N)
  (hp:args.all (AV.inn nk)=true)
  (h:∀ w0 F0 fp pg,Holds B g ⟨w0,F0,N,fp,nk,pg,[]⟩→W P ⟨w0,F0,N,fp,nk,pg,[]⟩ c ⟨number 0 args,M,nk⟩ (QFinM P fn ⟨w0,F0,N,fp,nk,pg,[]⟩ res M' nk')):Cto B g P f args M nk res M' nk':=by
 intro w G vs hB hlo hO hl hR
 subst hN
 refine calls_of_wp hf hb ?_
 have hH:Holds B g ⟨w,G.F,fn.ntmps,fpM G M,nk,G,[]⟩:=⟨fun w2 F2 k1 k2=>hS.2 w w2 G.F F2 (fun i hi=>k1.block i (Nat.lt_of_lt_of_le hi (hS.1 w G.F hB)) fun h=>by have:=hlo i h;omega) k2 hB,fun x hx=>hx.elim (fun h=>Nat.le_trans (hS.1 w G.F hB) h) (hlo x)⟩
 have h1:=h w G.F (fpM G M) G hH G { tmps:=vs.toArray++Array.replicate (fn.ntmps - vs.toArray.size) undef,defers:=[] } w
  ⟨by simp;omega,⟨rfl,Nat.le_refl _,fun k _=>⟨rfl,rfl,rfl⟩⟩,fun i av hx=>by
   obtain ⟨_,h2⟩:=look_number args 0 i av hx
   simp only [Nat.sub_zero] at h2
   have hi:i < args.length:=(List.getElem?_eq_some_iff.1 h2).1
   have hv:i < vs.length:=by omega
   refine ⟨by show i < fn.ntmps;omega,inn_bd (List.all_eq_true.1 hp av (List.mem_of_getElem? h2)),hR i av _ h2 ?_⟩
   simp [Array.getD_eq_getD_getElem?,Array.getElem?_append_left,hv],
   Kept.refl _ _,hO.fw,fun _ _ h=>h,fun _ _ h=>.inl h,hO.ob,(fun k o x h1 h2=>⟨.inr ⟨k,o,h1,h2⟩,hO.my k o x h1 h2⟩),hO.dj,hO.dF⟩
 refine wp_mono h1 fun e a w' ⟨σ,G1,⟨he,hfin⟩,ok⟩=>?_
 obtain ⟨v,G',hr,ok',hbd,hres⟩:=hfin G1 a w' ok
 have fin:∃ v' G'',Ending.returned v=.returned v'∧Kept (fpM G M) w w'∧View.le G.F G''.F∧(∀ p u,G''.F p=some u→G.F p=some u∨w.heap.size≤p.block∨fpM G M p.block)∧Obs G'' w' M' nk' ∧
   (∀ k o x,look k M'=some o→G''.fp k x→w.heap.size≤x∨fpM G M x)∧(∀ k,k < nk→G''.b k=G.b k∧G''.n k=G.n k∧G''.h k=G.h k)∧nk≤nk'∧Bd nk' res∧R G'' res v' :=
  ⟨v,G',rfl,ok'.bel,ok'.f0,ok'.f1,⟨ok'.fw,ok'.ob,fun k o x h1 h2=>(ok'.my k o x h1 h2).2,ok'.dj,ok'.dF⟩,fun k o x h1 h2=>(ok'.my k o x h1 h2).1,ok'.df.2.2,ok'.df.2.1,hbd,hres⟩
 rcases he with rfl|rfl
 ·exact ⟨ok'.df.1,v,hr,fin⟩
 ·exact ⟨ok'.df.1,v,hr,fin⟩
section
variable {P:Program} {C:Cx} {σ:St} {G:Gh} {a:Act} {w:World}
theorem resV_R (ok:Ok C σ G a w) {r:ResultVar} {av:AV} (h:resV P σ r=some av)(hp:ownB av=false):∃ v,(resOne a.tmps r).run P w=.ok v w∧R G av v∧Bd σ.nk av:=by
 cases r with
 | tmp t=>exact⟨a.tmps.getD t undef,rfl,(ok.tm t _ h).2.2,(ok.tm t _ h).2.1⟩
 | cell t T =>
  simp only [resV] at h
  split at h
  ·rename_i k ht
   split at h
   ·rename_i T' cells hk hT
    split at h
    ·rename_i n hn
     cases hb:Nat.beq cells.length n with
     | false=>rw [hb] at h;cases h
     | true =>
      rw [hb] at h
      cases h
      obtain⟨p,ep,p1,p2,p3⟩:=(ok.tm t _ ht).2.2.pt_of
      obtain⟨_,hbd,g3,cs,Φ,g4,g5,_,_,g6⟩:=ok.ob k _ hk
      obtain rfl:=addr_eq p1 p2 p3
      rw [Nat.zero_mul,Nat.zero_add] at ep
      have hown:=ownB_all hp
      refine⟨.agg cs,?_,.ag _ _ g5 fun i av u x y=>(g6 i av u x y).r (by simpa using List.all_eq_true.1 hown av (List.mem_of_getElem? x)),.ag _ fun i av x=>hbd i av x⟩
      unfold aggB at hT
      cases hu:P.underlying T with
      | none=>simp [hu] at hT
      | some d =>
       have hsz:sizeB P T=some cs.size:=by rw [hn,g5];exact congrArg some (Nat.eq_of_beq_eq_true hb).symm
       have:=results_cell_row (fn:={ (default:Func) with results:=#[.cell t T] }) rfl a.tmps w (G.b k) T' cs (0,0) d ep g4 hu (by rw [hu] at hT;cases d<;>simp_all) hsz
       have e:(results { (default:Func) with results:=#[.cell t T] } a.tmps).run P w=(resOne a.tmps (.cell t T)).run P w:=by
        unfold results resOne
        first|(simp;done)|(simp;rfl)
       rw [← e];exact this
    ·cases h
   ·cases h
  ·cases h
theorem resL_R (ok:Ok C σ G a w):∀ {l:List ResultVar} {avs:List AV},resL P σ l=some avs→avs.all (fun av=>!ownB av)=true→∃ vs:List Value,(l.mapM (resOne a.tmps)).run P w=.ok vs w∧vs.length=avs.length∧(∀ (i:Nat)av u,avs[i]?=some av→vs[i]?=some u→R G av u)∧∀ (i:Nat)av,avs[i]?=some av→Bd σ.nk av
 | [],avs,h,_=>by cases h;exact ⟨[],rfl,rfl,fun i av u x=>by simp at x,fun i av x=>by simp at x⟩
 | r::l,avs,h,hp=>by
  cases h1:resV P σ r with
  | none=>simp only [resL,h1]at h;cases h
  | some x =>
  cases h2:resL P σ l with
  | none=>simp only [resL,h1,h2]at h;cases h
  | some y =>
   simp only [resL,h1,h2,Option.some.injEq]at h
   subst h
   simp only [List.all_cons,Bool.and_eq_true,Bool.not_eq_true']at hp
   obtain ⟨v,e1,e2,e3⟩:=resV_R ok h1 hp.1
   obtain ⟨vs,f1,f2,f3,f4⟩:=resL_R ok h2 hp.2
   refine ⟨v::vs,by simp [List.mapM_cons,Sem.run_bind,e1,f1,Result.andThen],by simp [f2],fun i av u p q=>?_,fun i av p=>?_⟩
   ·cases i with
    | zero=>cases p;cases q;exact e2
    | succ i=>exact f3 i av u (by simpa using p) (by simpa using q)
   ·cases i with
    | zero=>cases p;exact e3
    | succ i=>exact f4 i av (by simpa using p)
def resT:List AV→AV
 | [x]=>x
 | l=>.tu l
theorem finM {fn:Func} {avs:List AV} {res:AV} {M':List (Nat×AO)} {nk':Nat} (h:resL P σ fn.results.toList=some avs) (hp:avs.all (fun av=>!ownB av)=true) (e:resT avs=res) (hM:σ.M=M') (hk:σ.nk=nk'):QFinM P fn C res M' nk' .ret σ:=by
 refine ⟨.inr rfl,fun G a w ok=>?_⟩
 subst e hM hk
 obtain ⟨vs,e1,e2,e3,e4⟩:=resL_R ok h hp
 have er:results fn a.tmps=(do let vs ← fn.results.mapM (resOne a.tmps);pure (if h:vs.size=1 then vs[0] else .tuple vs)):=rfl
 have run:(results fn a.tmps).run P w=.ok (if h:vs.toArray.size=1 then vs.toArray[0] else .tuple vs.toArray) w:=by
  rw [er,Array.mapM_eq_mapM_toList]
  simp only [Sem.run_bind,Sem.run_map,e1,Result.andThen]
  rfl
 have okE:Ok C ⟨[],σ.M,σ.nk⟩ G a w:=⟨ok.sz,ok.df,fun i av h=>(by cases h),ok.bel,ok.fw,ok.f0,ok.f1,ok.ob,ok.my,ok.dj,ok.dF⟩
 cases avs with
 | nil =>
  cases vs with
  | nil=>exact ⟨.tuple #[],G,run,okE,.tu _ fun i x hx=>by simp at hx,.tu _ _ rfl fun i av u x=>by simp at x⟩
  | cons v us=>cases e2
 | cons x r =>
  cases vs with
  | nil=>cases e2
  | cons v us =>
   cases r with
   | nil =>
    cases us with
    | nil=>exact ⟨v,G,run,okE,e4 0 x rfl,e3 0 x v rfl rfl⟩
    | cons u us=>cases e2
   | cons y r =>
    cases us with
    | nil=>cases e2
    | cons u us =>
     refine ⟨.tuple (v::u::us).toArray,G,?_,okE,.tu _ e4,.tu _ _ (by simpa using e2) fun i av u' p q=>e3 i av u' p (by simpa using q)⟩
     rw [run,dif_neg (by simp)]
end
theorem R.un0 {G:Gh} {ρ:Nat→Nat} {nk:Nat} {av:AV} {v:Value} (h:av.in0 nk=true) (r:R (G.ren ρ) av v):R G (av.ren0 ρ) v:=by
 cases av with
 | pt k i j=>obtain ⟨p,rfl,a,b,c⟩:=r.pt_of;exact .pt _ i j p a b c
 | sl k=>obtain ⟨rfl,b⟩:=r.sl_of;exact R.sl (G:=G) (ρ k) b
 | sc x=>rw [r.sc_eq];exact .pu _ _ (.sc x)
 | ls n rows=>exact .pu _ _ (show RP G.F _ _ from r.pu_of)
 | pr cells=>exact .pu _ _ (show RP G.F _ _ from r.pr_of)
 | ow T n rows=>exact r.no_ow.elim
 | _=>cases h
theorem R.un1 {G:Gh} {ρ:Nat→Nat} {nk:Nat} {av:AV} {v:Value} (h:av.in1 nk=true) (r:R (G.ren ρ) av v):R G (av.ren1 ρ) v:=by
 cases av with
 | fn f l =>
  obtain ⟨cs,rfl,h1,h2⟩:=r.fn_of
  refine .fn f _ cs (by simpa using h1) fun i av u x y=>?_
  rw [List.getElem?_map] at x
  cases hq:l[i]? with
  | none=>simp [hq] at x
  | some b=>simp [hq] at x;rw [← x];exact R.un0 (List.all_eq_true.1 h b (List.mem_of_getElem? hq)) (h2 i b u hq y)
 | ag l=>cases h
 | tu l=>cases h
 | pt k i j=>exact R.un0 (av:=.pt k i j) (nk:=nk) h r
 | sl k=>exact R.un0 (av:=.sl k) (nk:=nk) h r
 | sc x=>exact R.un0 (av:=.sc x) (nk:=nk) h r
 | ls n rows=>exact R.un0 (av:=.ls n rows) (nk:=nk) h r
 | ow T n rows=>exact R.un0 (av:=.ow T n rows) (nk:=nk) h r
 | pr cells=>exact R.un0 (av:=.pr cells) (nk:=nk) h r
theorem R.un2 {G:Gh} {ρ:Nat→Nat} {nk:Nat} {av:AV} {v:Value} (h:av.in2 nk=true) (r:R (G.ren ρ) av v):R G (av.ren2 ρ) v:=by
 cases av with
 | ag l =>
  obtain ⟨cs,rfl,h1,h2⟩:=r.ag_of
  refine .ag _ cs (by simpa using h1) fun i av u x y=>?_
  rw [List.getElem?_map] at x
  cases hq:l[i]? with
  | none=>simp [hq] at x
  | some b=>simp [hq] at x;rw [← x];exact R.un1 (List.all_eq_true.1 h b (List.mem_of_getElem? hq)) (h2 i b u hq y)
 | tu l=>cases h
 | fn f l=>exact R.un1 (av:=.fn f l) (nk:=nk) h r
 | pt k i j=>exact R.un1 (av:=.pt k i j) (nk:=nk) h r
 | sl k=>exact R.un1 (av:=.sl k) (nk:=nk) h r
 | sc x=>exact R.un1 (av:=.sc x) (nk:=nk) h r
 | ls n rows=>exact R.un1 (av:=.ls n rows) (nk:=nk) h r
 | ow T n rows=>exact R.un1 (av:=.ow T n rows) (nk:=nk) h r
 | pr cells=>exact R.un1 (av:=.pr cells) (nk:=nk) h r
theorem R.un {G:Gh} {ρ:Nat→Nat} {nk:Nat} {av:AV} {v:Value} (h:av.inn nk=true) (r:R (G.ren ρ) av v):R G (av.ren ρ) v:=by
 cases av with
 | tu l =>
  obtain ⟨cs,rfl,h1,h2⟩:=r.tu_of
  refine .tu _ cs (by simpa using h1) fun i av u x y=>?_
  rw [List.getElem?_map] at x
  cases hq:l[i]? with
  | none=>simp [hq] at x
  | some b=>simp [hq] at x;rw [← x];exact R.un2 (List.all_eq_true.1 h b (List.mem_of_getElem? hq)) (h2 i b u hq y)
 | ag l=>exact R.un2 (av:=.ag l) (nk:=nk) h r
 | fn f l=>exact R.un2 (av:=.fn f l) (nk:=nk) h r
 | pt k i j=>exact R.un2 (av:=.pt k i j) (nk:=nk) h r
 | sl k=>exact R.un2 (av:=.sl k) (nk:=nk) h r
 | sc x=>exact R.un2 (av:=.sc x) (nk:=nk) h r
 | ls n rows=>exact R.un2 (av:=.ls n rows) (nk:=nk) h r
 | ow T n rows=>exact R.un2 (av:=.ow T n rows) (nk:=nk) h r
 | pr cells=>exact R.un2 (av:=.pr cells) (nk:=nk) h r
theorem CR.un {G:Gh} {w:World} {ρ:Nat→Nat} {nk:Nat} {φ:Nat→Prop} {av:AV} {v:Value} (h:av.in1 nk=true)(r:CR (G.ren ρ) w φ av v):CR G w φ (av.ren1 ρ) v:=by
 rcases r with r|o
 ·exact .inl (R.un1 h r)
 ·by_cases ho:av.own=true
  ·cases av with
   | ow T n rows=>exact .inr o
   | _=>cases ho
  ·exact .inl (R.un1 h (.pu _ _ (OW.p o (by simpa using ho))))
theorem ObAt.un {G:Gh} {w:World} {ρ:Nat→Nat} {nk k:Nat} {ob:AO} (h:ob.inn nk=true) (g:ObAt (G.ren ρ) w k ob):ObAt G w (ρ k) (ob.ren ρ):=by
 cases ob with
 | box T cells =>
  obtain ⟨b1,cs,Φ,b2,b3,b4,b5,b6⟩:=g
  refine ⟨b1,cs,Φ,b2,by simpa using b3,b4,b5,fun i av u x y=>?_⟩
  rw [List.getElem?_map] at x
  cases hq:cells[i]? with
  | none=>simp [hq] at x
  | some b=>simp [hq] at x;rw [← x];exact CR.un (List.all_eq_true.1 h b (List.mem_of_getElem? hq)) (b6 i b u hq y)
 | row T n rows=>exact g
 | rwn T n rows=>exact g
 | rof T n rows hi hj y =>
  obtain ⟨g1,g2,g3⟩:=g
  refine ⟨g1,g2,g3.keep (fun _ _=>rfl) fun i r j av ψ u _ _ _ x=>?_⟩
  unfold XH at x ⊢
  by_cases e:i=hi∧j=hj
  ·rw [if_pos e] at x ⊢
   exact R.un1 h x
  ·rw [if_neg e] at x ⊢
   exact x
 | rwo T n rows hi hj y =>
  obtain ⟨g1,g2,g3⟩:=g
  refine ⟨g1,g2,g3.keep (fun _ _=>rfl) fun i r j av ψ u _ _ _ x=>?_⟩
  unfold XQ at x ⊢
  by_cases e:i=hi∧j=hj
  ·rw [if_pos e] at x ⊢
   exact R.un1 h x
  ·rw [if_neg e] at x ⊢
   exact x
 | bld T e l=>exact g
 | opq q=>exact g
def rhoC(ks:List Nat)(nk m q:Nat):Nat:=bif Nat.blt q nk then ks.getD q 0 else m+(q-nk)
def idx (q:Nat):List Nat→Option Nat
 | []=>none
 | x::r=>bif Nat.beq q x then some 0 else (idx q r).map (·+1)
theorem idx_some {q:Nat}:∀ {l:List Nat} {i:Nat},idx q l=some i→l[i]?=some q
 | [],i,h=>by cases h
 | x::r,i,h=>by
  unfold idx at h
  cases hb:Nat.beq q x with
  | true=>rw [hb]at h;cases h;rw [Nat.eq_of_beq_eq_true hb];rfl
  | false =>
   rw [hb]at h
   simp only [cond_false]at h
   obtain⟨j,h1,rfl⟩:=Option.map_eq_some_iff.1 h
   simpa using idx_some h1
def remL {α:Type} (ks:List Nat)(M:List (Nat×α)):List (Nat×α):=ks.foldr (fun k r=>rem k r) M
theorem look_remL {α:Type} (i:Nat):∀ (ks:List Nat)(M:List (Nat×α)),look i (remL ks M)=if i∈ks then none else look i M
 | [],M=>by simp [remL]
 | k::r,M=>by
  show look i (rem k (remL r M))=_
  rw [look_rem,look_remL i r M]
  by_cases e:i=k
  ·rw [if_pos e,if_pos (by simp [e])]
  ·rw [if_neg e]
   by_cases e2:i∈r
   ·rw [if_pos e2,if_pos (by simp [e2])]
   ·rw [if_neg e2,if_neg (by simp [e,e2])]
def renM (ρ:Nat→Nat):List (Nat×AO)→List (Nat×AO)
 | []=>[]
 | x::r=>(ρ x.1,x.2.ren ρ)::renM ρ r
theorem look_app_ {α:Type} (i:Nat):∀ (l r:List (Nat×α)),look i (l++r)=(look i l).or (look i r)
 | [],r=>by simp [look]
 | x::l,r=>by
  by_cases e:i=x.1
  ·subst e
   rw [List.cons_append,show look x.1 (x::(l++r))=some x.2 from look_set_same,show look x.1 (x::l)=some x.2 from look_set_same];rfl
  ·rw [List.cons_append,show look i (x::(l++r))=look i (l++r)from look_set_other e,show look i (x::l)=look i l from look_set_other e]
   exact look_app_ i l r
theorem look_renM {ρ:Nat→Nat} {q:Nat} {o:AO}:∀ {M:List (Nat×AO)},(∀ x∈M,∀ y∈M,ρ x.1=ρ y.1→x.1=y.1)→look q (renM ρ M)=some o→∃ i ob,q=ρ i∧look i M=some ob∧o=ob.ren ρ
 | [],_,h=>by cases h
 | x::r,hi,h=>by
  by_cases e:q=ρ x.1
  ·subst e
   rw [show look (ρ x.1) (renM ρ (x::r))=some (x.2.ren ρ) from look_set_same] at h
   cases h
   exact ⟨x.1,x.2,rfl,look_set_same,rfl⟩
  ·rw [show look q (renM ρ (x::r))=look q (renM ρ r) from look_set_other e] at h
   obtain ⟨i,ob,e1,e2,e3⟩:=look_renM (fun y hy z hz=>hi y (by simp [hy]) z (by simp [hz])) h
   refine ⟨i,ob,e1,?_,e3⟩
   rw [show look i (x::r)=look i r from look_set_other fun h=>e (by rw [e1,h])]
   exact e2
theorem AO.ren_bd {ρ:Nat→Nat} {nk nk2:Nat} {ob:AO} (h:ob.inn nk=true)(hρ:∀ i,i<nk→ρ i<nk2):(ob.ren ρ).bd nk2:=by
 have r0:∀ av:AV,av.in0 nk=true→Bd nk2 (av.ren0 ρ):=fun av h=>by
  cases av with
  | sc v=>exact .sc v
  | ls n rows=>exact .ls n rows
  | ow T n rows=>exact .ow T n rows
  | pr cells=>exact .pr cells
  | pt k i j=>exact .pt _ i j (hρ k (of_blt h))
  | sl k=>exact .sl _ (hρ k (of_blt h))
  | _=>cases h
 have r1:∀ b:AV,b.in1 nk=true→Bd nk2 (b.ren1 ρ):=fun b hb=>by
  cases b with
  | fn f l =>
   refine .fn f _ fun j x hx=>?_
   rw [List.getElem?_map] at hx
   cases hq2:l[j]? with
   | none=>simp [hq2] at hx
   | some c=>simp [hq2] at hx;rw [← hx];exact r0 c (List.all_eq_true.1 hb c (List.mem_of_getElem? hq2))
  | ag l=>cases hb
  | tu l=>cases hb
  | sc v=>exact r0 (.sc v) hb
  | ls n rows=>exact r0 (.ls n rows) hb
  | ow T n rows=>exact r0 (.ow T n rows) hb
  | pr cells=>exact r0 (.pr cells) hb
  | pt k i j=>exact r0 (.pt k i j) hb
  | sl k=>exact r0 (.sl k) hb
 cases ob with
 | box T cells =>
  intro i av hx
  have hx:(cells.map (AV.ren1 ρ))[i]?=some av:=hx
  rw [List.getElem?_map] at hx
  cases hq:cells[i]? with
  | none=>simp [hq] at hx
  | some b =>
   simp [hq] at hx
   rw [← hx]
   exact r1 b (List.all_eq_true.1 h b (List.mem_of_getElem? hq))
 | row T n rows=>trivial
 | rwn T n rows=>trivial
 | rof T n rows hi hj y=>exact r1 y h
 | rwo T n rows hi hj y=>exact r1 y h
 | bld T e l=>trivial
 | opq q=>trivial
theorem AV.ren_bd {ρ:Nat→Nat} {nk nk2:Nat} {av:AV} (h:av.inn nk=true) (hρ:∀ i,i<nk→ρ i<nk2):Bd nk2 (av.ren ρ):=by
 have r1:∀ av:AV,av.in1 nk=true→Bd nk2 (av.ren1 ρ):=fun av h=>by
  have:=AO.ren_bd (ob:=.box 0 [av]) (ρ:=ρ) (nk:=nk) (nk2:=nk2) (by simp [AO.inn,h]) hρ
  exact this 0 _ rfl
 have r2:∀ av:AV,av.in2 nk=true→Bd nk2 (av.ren2 ρ):=fun av h=>by
  cases av with
  | ag l =>
   refine .ag _ fun j x hx=>?_
   rw [List.getElem?_map] at hx
   cases hq2:l[j]? with
   | none=>simp [hq2] at hx
   | some c=>simp [hq2] at hx;rw [← hx];exact r1 c (List.all_eq_true.1 h c (List.mem_of_getElem? hq2))
  | fn f l=>exact r1 (.fn f l) h
  | tu l=>cases h
  | sc v=>exact r1 (.sc v) h
  | ls n rows=>exact r1 (.ls n rows) h
  | ow T n rows=>exact r1 (.ow T n rows) h
  | pr cells=>exact r1 (.pr cells) h
  | pt k i j=>exact r1 (.pt k i j) h
  | sl k=>exact r1 (.sl k) h
 cases av with
 | tu l =>
  refine .tu _ fun j x hx=>?_
  rw [List.getElem?_map] at hx
  cases hq2:l[j]? with
  | none=>simp [hq2] at hx
  | some c=>simp [hq2] at hx;rw [← hx];exact r2 c (List.all_eq_true.1 h c (List.mem_of_getElem? hq2))
 | ag l=>exact r2 (.ag l) h
 | fn f l=>exact r2 (.fn f l) h
 | sc v=>exact r2 (.sc v) h
 | ls n rows=>exact r2 (.ls n rows) h
 | ow T n rows=>exact r2 (.ow T n rows) h
 | pr cells=>exact r2 (.pr cells) h
 | pt k i j=>exact r2 (.pt k i j) h
 | sl k=>exact r2 (.sl k) h
def ksB (ks:List Nat)(nk m:Nat):Bool:=Nat.beq ks.length nk && injB id ks && nodB ks && ks.all (fun k=>Nat.blt k m)
where nodB : List Nat → Bool
  | [] => true
  | x :: r => !(r.any fun y => Nat.beq x y) && nodB r
theorem nod_of:∀ {ks:List Nat},ksB.nodB ks=true→ks.Nodup
 | [],_=>List.nodup_nil
 | x::r,h=>by
  simp only [ksB.nodB,Bool.and_eq_true,Bool.not_eq_true',List.any_eq_false]at h
  exact List.nodup_cons.2 ⟨fun hx=>h.1 x hx (Nat.beq_refl x),nod_of h.2⟩
theorem idx_of {q:Nat}:∀ {l:List Nat} {i:Nat},l.Nodup→l[i]?=some q→idx q l=some i
 | [],i,_,h=>by simp at h
 | x::r,0,_,h=>by cases h;unfold idx;rw [Nat.beq_refl];rfl
 | x::r,i+1,hn,h=>by
  have h:r[i]?=some q:=by simpa using h
  have hne:q≠x:=fun e=>(List.nodup_cons.1 hn).1 (e ▸ List.mem_of_getElem? h)
  have hb:Nat.beq q x=false:=by
   cases hb:Nat.beq q x with
   | false=>rfl
   | true=>exact absurd (Nat.eq_of_beq_eq_true hb) hne
  unfold idx
  rw [hb]
  simp only [cond_false]
  rw [idx_of (List.nodup_cons.1 hn).2 h];rfl
section
variable {B:World→View→Prop} {gl:Nat} {P:Program} {C:Cx} {σ:St} {G:Gh} {a:Act} {w w':World}
theorem Ok.cto (ok:Ok C σ G a w) {ks:List Nat} {M M':List (Nat×AO)} {nk nk':Nat} {G':Gh} (hks:ksB ks nk σ.nk=true) (hM:∀ k o,look k M=some o→k<nk∧∃ o2,look (ks.getD k 0) σ.M=some o2)
  (hMk:∀ x,fpM (G.ren (rhoC ks nk σ.nk)) M x→∃ k o,k<nk∧look (ks.getD k 0) σ.M=some o∧G.fp (ks.getD k 0) x)
  (hkept:Kept (fpM (G.ren (rhoC ks nk σ.nk)) M) w w') (hF:View.le G.F G'.F) (hnew:∀ p u,G'.F p=some u→G.F p=some u∨w.heap.size≤p.block∨fpM (G.ren (rhoC ks nk σ.nk)) M p.block) (hO:Obs G' w' M' nk')
  (hmy:∀ k o x,look k M'=some o→G'.fp k x→w.heap.size≤x∨fpM (G.ren (rhoC ks nk σ.nk)) M x) (hpin:∀ k,k<nk→G'.b k=(G.ren (rhoC ks nk σ.nk)).b k∧G'.n k=(G.ren (rhoC ks nk σ.nk)).n k∧G'.h k=(G.ren (rhoC ks nk σ.nk)).h k) (hle:nk≤nk')
  (hinn:M'.all (fun x=>x.2.inn nk')=true) (hkm:M'.all (fun x=>Nat.blt x.1 nk')=true) :
  ∃ G'',Ok C ⟨σ.t,renM (rhoC ks nk σ.nk) M'++remL ks σ.M,σ.nk+(nk'-nk)⟩ G'' a w'∧∀ av v,av.inn nk'=true→R G' av v→R G'' (av.ren (rhoC ks nk σ.nk)) v:=by
 simp only [ksB,Bool.and_eq_true] at hks
 obtain ⟨⟨⟨hk1,_⟩,hk3⟩,hk4⟩:=hks
 have hlen:=Nat.eq_of_beq_eq_true hk1
 have hnod:=nod_of hk3
 have hlt:∀ i,i<nk→ks.getD i 0<σ.nk:=fun i hi=>by
  rw [List.getD_eq_getElem?_getD,List.getElem?_eq_getElem (by omega)]
  exact of_blt (List.all_eq_true.1 hk4 _ (List.getElem_mem _))
 have hat:∀ i,i<nk→ks[i]?=some (ks.getD i 0):=fun i hi=>by
  rw [List.getD_eq_getElem?_getD,List.getElem?_eq_getElem (by omega)];rfl
 let ρ:=rhoC ks nk σ.nk
 have rlo:∀ i,i<nk→ρ i=ks.getD i 0:=fun i hi=>by
  show (bif Nat.blt i nk then _ else _)=_
  rw [show Nat.blt i nk=true from Nat.ble_eq_true_of_le hi];rfl
 have rhi:∀ i,nk≤i→ρ i=σ.nk+(i-nk):=fun i hi=>by
  show (bif Nat.blt i nk then _ else _)=_
  rw [show Nat.blt i nk=false from by
   cases h:Nat.blt i nk with
   | false=>rfl
   | true=>exact absurd (of_blt h) zqo];rfl
 let G'':Gh:=⟨G'.F,fun q=>if σ.nk≤q then G'.b (q-σ.nk+nk) else G.b q,fun q=>if σ.nk≤q then G'.n (q-σ.nk+nk) else G.n q,fun q=>if σ.nk≤q then G'.h (q-σ.nk+nk) else G.h q,
  fun q=>if σ.nk≤q then G'.fp (q-σ.nk+nk) else match idx q ks with
   | some i=>G'.fp i
   | none=>G.fp q⟩
 have hGle:G.le G'' σ.nk:=⟨hF,fun q hq=>if_neg zqo,fun q hq=>if_neg zqo,fun q hq=>if_neg zqo⟩
 have hren:G'.le (G''.ren ρ) nk':=by
  refine ⟨fun _ _ h=>h,fun i hi=>?_,fun i hi=>?_,fun i hi=>?_⟩
  all_goals
   show (if σ.nk≤ρ i then _ else _)=_
   by_cases h:i<nk
   ·rw [rlo i h,if_neg (by have:=hlt i h;omega)]
    first
     |exact (by rw [(hpin i h).1];show _=G.b (ρ i);rw [rlo i h])
     |exact (by rw [(hpin i h).2.1];show _=G.n (ρ i);rw [rlo i h])
     |exact (by rw [(hpin i h).2.2];show _=G.h (ρ i);rw [rlo i h])
   ·rw [rhi i (by omega),if_pos (by omega),show σ.nk+(i-nk)-σ.nk+nk=i by omega]
 have hrfp:∀ i,i<nk'→(G''.ren ρ).fp i=G'.fp i:=fun i hi=>by
  show (if σ.nk≤ρ i then _ else _)=_
  by_cases h:i<nk
  ·rw [rlo i h,if_neg (by have:=hlt i h;omega)]
   show (match idx (ks.getD i 0) ks with
    | some i=>G'.fp i
    | none=>G.fp (ks.getD i 0))=_
   rw [idx_of hnod (hat i h)]
  ·rw [rhi i (by omega),if_pos (by omega),show σ.nk+(i-nk)-σ.nk+nk=i by omega]
 have hρlt:∀ i,i<nk'→ρ i<σ.nk+(nk'-nk):=fun i hi=>by
  by_cases h:i<nk
  ·rw [rlo i h];have:=hlt i h;omega
  ·rw [rhi i (by omega)];omega
 have hρinj:∀ i j,ρ i=ρ j→i<nk'→j<nk'→i=j:=fun i j e hi hj=>by
  by_cases h:i<nk<;>by_cases h':j<nk
  ·rw [rlo i h,rlo j h'] at e
   have h1:=idx_of hnod (hat i h)
   have h2:=idx_of hnod (hat j h')
   rw [e,h2] at h1
   exact (Option.some.inj h1).symm
  ·rw [rlo i h,rhi j (by omega)] at e;have:=hlt i h;omega
  ·rw [rhi i (by omega),rlo j h'] at e;have:=hlt j h';omega
  ·rw [rhi i (by omega),rhi j (by omega)] at e;omega
 have kin:∀ x∈M',x.1<nk':=fun x hx=>of_blt (List.all_eq_true.1 hkm x hx)
 have lookM:∀ k o,look k (renM ρ M'++remL ks σ.M)=some o→(∃ i ob,k=ρ i∧look i M'=some ob∧o=ob.ren ρ∧i<nk'∧ob.inn nk'=true)∨(¬ k∈ks∧look k σ.M=some o∧k<σ.nk):=fun k o h=>by
  rw [look_app_] at h
  cases h1:look k (renM ρ M') with
  | some o1 =>
   rw [h1] at h
   simp only [Option.some_or,Option.some.injEq] at h
   subst h
   obtain ⟨i,ob,e1,e2,e3⟩:=look_renM (fun x hx y hy e=>hρinj _ _ e (kin x hx) (kin y hy)) h1
   have hx:i∈M'.map (·.1):=look_mem e2
   obtain ⟨y,hy,hyi⟩:=List.mem_map.1 hx
   have hi:i<nk':=by rw [← hyi];exact kin y hy
   refine .inl ⟨i,ob,e1,e2,e3,hi,?_⟩
   have:∀ {l:List (Nat×AO)},look i l=some ob→∃ z∈l,z.2=ob:=fun {l}=>by
    induction l with
    | nil=>intro h;cases h
    | cons z r ih =>
     intro h
     by_cases e:i=z.1
     ·rw [e,show look z.1 (z::r)=some z.2 from look_set_same] at h
      cases h
      exact ⟨z,by simp,rfl⟩
     ·rw [show look i (z::r)=look i r from look_set_other e] at h
      obtain ⟨z',h1,h2⟩:=ih h
      exact ⟨z',by simp [h1],h2⟩
   obtain ⟨z,hz,hz2⟩:=this e2
   rw [← hz2];exact List.all_eq_true.1 hinn z hz
  | none =>
   rw [h1] at h
   simp only [Option.none_or] at h
   rw [look_remL] at h
   by_cases e:k∈ks
   ·rw [if_pos e] at h;cases h
   ·rw [if_neg e] at h
    exact .inr ⟨e,h,(ok.ob k o h).1⟩
 have fpOut:∀ k,¬ k∈ks→k<σ.nk→G''.fp k=G.fp k:=fun k h1 h2=>by
  show (if σ.nk≤k then _ else _)=_
  rw [if_neg (by omega)]
  cases h3:idx k ks with
  | none=>rfl
  | some i=>exact absurd (List.mem_of_getElem? (idx_some h3)) h1
 have outS:∀ k o x,¬ k∈ks→look k σ.M=some o→G.fp k x→¬ fpM (G.ren (rhoC ks nk σ.nk)) M x:=fun k o x h1 h2 h3 h4=>by
  obtain ⟨i,o2,hi,h5,h6⟩:=hMk x h4
  have:=ok.dj k o _ o2 x h2 h5 h3 h6
  exact h1 (this ▸ List.mem_of_getElem? (hat i hi))
 have fF:∀ p u,G.F p=some u→w'.heap[p.block]?=w.heap[p.block]?:=fun p u h=>hkept.block _ (cell_block (ok.fw p u h)) fun hx=>by
  obtain ⟨i,o2,hi,h5,h6⟩:=hMk _ hx
  exact ok.dF _ o2 _ p u h5 h6 h rfl
 have may_:∀ x,fpM (G.ren (rhoC ks nk σ.nk)) M x→C.may x∧x<w.heap.size:=fun x h=>by
  obtain ⟨i,o2,hi,h5,h6⟩:=hMk x h
  exact ok.my _ o2 x h5 h6
 have mayN:∀ x,w.heap.size≤x→C.may x:=fun x h=>.inl (Nat.le_trans ok.bel.size h)
 have fpN:∀ k o x,look k (renM ρ M'++remL ks σ.M)=some o→G''.fp k x→(∃ i ob,k=ρ i∧look i M'=some ob∧i<nk'∧G'.fp i x)∨(¬ k∈ks∧look k σ.M=some o∧k<σ.nk∧G.fp k x):=fun k o x h1 h2=>by
  rcases lookM k o h1 with⟨i,ob,e1,e2,e3,e4,e5⟩|⟨e1,e2,e3⟩
  ·refine .inl ⟨i,ob,e1,e2,e4,?_⟩
   have:=hrfp i e4
   rw [← this]
   show G''.fp (ρ i) x
   rw [← e1];exact h2
  ·rw [fpOut k e1 e3] at h2
   exact .inr ⟨e1,e2,e3,h2⟩
 refine ⟨G'',⟨ok.sz,⟨ok.df.1,Nat.le_trans ok.df.2.1 (Nat.le_add_right _ _),fun k hk=>?_⟩,fun i av x=>⟨(ok.tm i av x).1,(ok.tm i av x).2.1.mono (Nat.le_add_right _ _),(ok.tm i av x).2.2.mono hGle (ok.tm i av x).2.1⟩,
  ok.bel.on hkept fun x hx=>(may_ x hx).1,hO.fw,fun p u x=>hF p u (ok.f0 p u x),fun p u x=>?_,fun k o x=>?_,fun k o x h1 h2=>?_,fun k o k' o' x h1 h2 h3 h4=>?_,fun k o x p u h1 h2 h3=>?_⟩,fun av v hin hr=>?_⟩
 ·have hk2:=Nat.lt_of_lt_of_le hk ok.df.2.1
  rw [hGle.b k hk2,hGle.n k hk2,hGle.h k hk2];exact ok.df.2.2 k hk
 ·rcases hnew p u x with h|h|h
  ·exact ok.f1 p u h
  ·exact .inr (mayN _ h)
  ·exact .inr (may_ _ h).1
 ·rcases lookM k o x with⟨i,ob,rfl,e2,rfl,e4,e5⟩|⟨e1,e2,e3⟩
  ·have h1:=hO.ob i ob e2
   have h2:ObAt (G''.ren ρ) w' i ob:=h1.2.2.keep hren h1.1 h1.2.1 (hrfp i e4) fun _ _=>rfl
   exact ⟨hρlt i e4,AO.ren_bd e5 hρlt,h2.un e5⟩
  ·have h1:=ok.ob k o e2
   exact ⟨Nat.lt_of_lt_of_le e3 (Nat.le_add_right _ _),AO.bd_mono (Nat.le_add_right _ _) h1.2.1,h1.2.2.keep hGle h1.1 h1.2.1 (fpOut k e1 e3) fun y hy=>hkept.block y (ok.my k o y e2 hy).2 (outS k o y e1 e2 hy)⟩
 ·rcases fpN k o x h1 h2 with⟨i,ob,e1,e2,e4,e5⟩|⟨e1,e2,e3,e4⟩
  ·refine ⟨?_,hO.my i ob x e2 e5⟩
   rcases hmy i ob x e2 e5 with h|h
   ·exact mayN x h
   ·exact (may_ x h).1
  ·exact ⟨(ok.my k o x e2 e4).1,Nat.lt_of_lt_of_le (ok.my k o x e2 e4).2 hkept.size⟩
 ·have cross:∀ i ob k o,look i M'=some ob→G'.fp i x→¬ k∈ks→look k σ.M=some o→G.fp k x→False:=fun i ob k o e2 e5 f1 f2 f4=>by
   rcases hmy i ob x e2 e5 with h|h
   ·have:=(ok.my k o x f2 f4).2;omega
   ·exact outS k o x f1 f2 f4 h
  rcases fpN k o x h1 h3 with⟨i,ob,e1,e2,e4,e5⟩|⟨e1,e2,e3,e4⟩
  ·rcases fpN k' o' x h2 h4 with⟨j,ob',f1,f2,f4,f5⟩|⟨f1,f2,f3,f4⟩
   ·rw [e1,f1,hO.dj i ob j ob' x e2 f2 e5 f5]
   ·exact (cross i ob k' o' e2 e5 f1 f2 f4).elim
  ·rcases fpN k' o' x h2 h4 with⟨j,ob',f1,f2,f4,f5⟩|⟨f1,f2,f3,f4⟩
   ·exact (cross j ob' k o f2 f5 e1 e2 e4).elim
   ·exact ok.dj k o k' o' x e2 f2 e4 f4
 ·rcases fpN k o x h1 h2 with⟨i,ob,e1,e2,e4,e5⟩|⟨e1,e2,e3,e4⟩
  ·exact hO.dF i ob x p u e2 e5 h3
  ·rcases hnew p u h3 with h|h|h
   ·exact ok.dF k o x p u e2 e4 h
   ·have:=(ok.my k o x e2 e4).2;omega
   ·intro e
    rw [e] at h
    exact outS k o x e1 e2 e4 h
 ·exact R.un hin (hr.mono hren (inn_bd hin))
theorem Ok.ctoC (ok:Ok C σ G a w) (hB:Holds B gl C) {f:FuncId} {args args':List AV} {res res':AV} {M M':List (Nat×AO)} {nk nk':Nat} (ks:List Nat) {vs:List Value} (hl:vs.length=args'.length) (hR:∀ (i:Nat) av u,args'[i]?=some av→vs[i]?=some u→R G av u)
  (h:Cto B gl P f args M nk res M' nk') (hks:ksB ks nk σ.nk=true) (ha:args.map (AV.ren (rhoC ks nk σ.nk))=args') (hp:args.all (AV.inn nk)=true) (hM:TrM σ (rhoC ks nk σ.nk) nk M)
  (hle:Nat.ble nk nk'=true) (hinn:M'.all (fun x=>x.2.inn nk')=true) (hkm:M'.all (fun x=>Nat.blt x.1 nk')=true) (hri:res.inn nk'=true) (hr:res.ren (rhoC ks nk σ.nk)=res') :
  Calls P f vs.toArray w fun e w1=>∃ v G'',e=.returned v∧Ok C ⟨σ.t,renM (rhoC ks nk σ.nk) M'++remL ks σ.M,σ.nk+(nk'-nk)⟩ G'' a w1∧R G'' res' v∧Bd (σ.nk+(nk'-nk)) res':=by
 subst hr
 have hks2:=hks
 simp only [ksB,Bool.and_eq_true] at hks2
 obtain ⟨⟨⟨hk1,_⟩,hk3⟩,hk4⟩:=hks2
 have hlen:=Nat.eq_of_beq_eq_true hk1
 have hnod:=nod_of hk3
 have rlo:∀ i,i<nk→rhoC ks nk σ.nk i=ks.getD i 0:=fun i hi=>by
  show (bif Nat.blt i nk then _ else _)=_
  rw [show Nat.blt i nk=true from Nat.ble_eq_true_of_le hi];rfl
 have hat:∀ i,i<nk→ks[i]?=some (ks.getD i 0):=fun i hi=>by
  rw [List.getD_eq_getElem?_getD,List.getElem?_eq_getElem (by omega)];rfl
 have hMat:∀ k o,look k M=some o→look (ks.getD k 0) σ.M=some (o.ren (rhoC ks nk σ.nk))∧o.inn nk=true∧k<nk:=fun k o h=>by
  obtain ⟨h1,h2,h3⟩:=hM.at_ k o h
  rw [rlo k h3] at h1
  exact ⟨h1,h2,h3⟩
 have hMk:∀ x,fpM (G.ren (rhoC ks nk σ.nk)) M x→∃ k o,k<nk∧look (ks.getD k 0) σ.M=some o∧G.fp (ks.getD k 0) x:=fun x ⟨k,o,h1,h2⟩=>by
  obtain ⟨h3,_,h4⟩:=hMat k o h1
  have h2:G.fp (rhoC ks nk σ.nk k) x:=h2
  rw [rlo k h4] at h2
  exact ⟨k,_,h4,h3,h2⟩
 have hO:Obs (G.ren (rhoC ks nk σ.nk)) w M nk:=by
  refine ⟨ok.fw,fun k o h=>?_,fun k o x h1 h2=>?_,fun k o k' o' x h1 h2 h3 h4=>?_,fun k o x p u h1 h2 h3=>?_⟩
  ·obtain ⟨h1,h2,h3⟩:=hM.at_ k o h
   have g:=(ok.ob _ _ h1).2.2
   exact ⟨h3,(ObAt.ren h2 g).1,(ObAt.ren h2 g).2⟩
  ·obtain ⟨h3,_,_⟩:=hM.at_ k o h1
   exact (ok.my _ _ x h3 h2).2
  ·obtain ⟨f1,_,f2⟩:=hM.at_ k o h1
   obtain ⟨f3,_,f4⟩:=hM.at_ k' o' h2
   have:=ok.dj _ _ _ _ x f1 f3 h3 h4
   rw [rlo k f2,rlo k' f4] at this
   have g1:=idx_of hnod (hat k f2)
   have g2:=idx_of hnod (hat k' f4)
   rw [this,g2] at g1
   exact (Option.some.inj g1).symm
  ·obtain ⟨f1,_,_⟩:=hM.at_ k o h1
   exact ok.dF _ _ x p u f1 h2 h3
 have hcalls:=h w (G.ren (rhoC ks nk σ.nk)) vs (hB.1 w G.F ok.bel ok.f0) (fun x hx=>by
   obtain ⟨k,o,_,h1,h2⟩:=hMk x hx
   exact hB.2 x (ok.my _ o x h1 h2).1) hO (by rw [hl,← ha];simp) fun i av u p q=>by
  have:args'[i]?=some (av.ren (rhoC ks nk σ.nk)):=by rw [← ha,List.getElem?_map,p];rfl
  exact R.ren_ (List.all_eq_true.1 hp av (List.mem_of_getElem? p)) (hR i _ u this q)
 refine hcalls.mono fun e w1 ⟨v,G',he,q1,q2,q3,q4,q5,q6,q7,q8,q9⟩=>?_
 obtain ⟨G'',ok',hres⟩:=ok.cto (M:=M) (M':=M') hks (fun k o h=>⟨(hMat k o h).2.2,_,(hMat k o h).1⟩) hMk q1 q2 q3 q4 q5 q6 (Nat.le_of_ble_eq_true hle) hinn hkm
 refine ⟨v,G'',he,ok',hres res v hri q9,AV.ren_bd hri fun i hi=>?_⟩
 show rhoC ks nk σ.nk i<σ.nk+(nk'-nk)
 by_cases h:i<nk
 ·rw [rlo i h]
  have:ks.getD i 0<σ.nk:=by
   rw [List.getD_eq_getElem?_getD,List.getElem?_eq_getElem (by omega)]
   exact of_blt (List.all_eq_true.1 hk4 _ (List.getElem_mem _))
  omega
 ·show (bif Nat.blt i nk then _ else _)<_
  rw [show Nat.blt i nk=false from by
   cases h2:Nat.blt i nk with
   | false=>rfl
   | true=>exact absurd (of_blt h2) h]
  show σ.nk+(i-nk)<_
  omega
def fnOf:AV→Option (FuncId×List AV)
 | .fn f l=>some (f,l)
 | .sc (.func (.func f) ⟨[]⟩ ⟨[]⟩)=>some (f,[])
 | _=>none
theorem fnOf_of {av:AV} {f:FuncId} {caps:List AV} {v:Value} (h:fnOf av=some (f,caps))(r:R G av v):∃ cs:Array Value,v=.func (.func f) #[] cs∧cs.size=caps.length∧∀ (i:Nat) av u,caps[i]?=some av→cs[i]?=some u→R G av u:=by
 unfold fnOf at h
 split at h
 ·cases h
  exact r.fn_of
 ·cases h
  exact⟨#[],r.sc_eq,rfl,fun i av u x=>by simp at x⟩
 ·cases h
theorem call_wp {f:FuncId} {o:Oper} {y:Operand} {xs:Array Operand} {ts:Array TypeId} {cs:Array Value} {R':Ending→World→Prop} {N:Act→World→Prop} {Q':Exit→Act→World→Prop} (ho:o.op=.call { callee:=.value y,args:=xs,argTypes:=ts })(hc:∀ vs w,(callFunc f vs).run P w=.ok (.enter f vs) w)
  (ey:a.eval y=.func (.func f) #[] cs)(h:Calls P f (xs.toList.map a.eval++cs.toList).toArray w R')(hN:∀ e w1,R' e w1→∃ v,e=.returned v∧N (a.put o.dst v) w1):o.wp P a w N Q':=by
 unfold Oper.wp execOp
 have e3:(#[]++xs.map a.eval++cs:Array Value)=(xs.toList.map a.eval++cs.toList).toArray:=by apply Array.ext';simp
 simp only [ho,resolve,ey,Deferred.ofValue,invoke,Sem.run_bind,Sem.run_pure,Result.andThen_ok,hc,Oper.upon,e3]
 refine h.mono fun e w1 hr=>?_
 obtain⟨v,rfl,hn⟩:=hN e w1 hr
 exact hn
theorem Ok.evl2 (ok:Ok C σ G a w) {xs:Array Operand} {args0 caps args':List AV} {cs:Array Value} (hx:σ.evs xs.toList=some args0)(h1:cs.size=caps.length)(h2:∀ (i:Nat)av u,caps[i]?=some av→cs[i]?=some u→R G av u)(ha:args0++caps=args') :
  (xs.toList.map a.eval++cs.toList).length=args'.length∧∀ (i:Nat)av u,args'[i]?=some av→(xs.toList.map a.eval++cs.toList)[i]?=some u→R G av u:=by
 obtain⟨e1,e2⟩:=ok.evl hx
 subst ha
 refine⟨by rw [List.length_append,List.length_append,e1];simpa using h1,fun i av u p q=>?_⟩
 by_cases hi:i<args0.length
 ·rw [List.getElem?_append_left hi]at p
  rw [List.getElem?_append_left (by omega)]at q
  exact e2 i av u p q
 ·rw [List.getElem?_append_right (by omega)]at p
  rw [List.getElem?_append_right (by omega),e1]at q
  exact h2 _ av u p (by simpa using q)
theorem WO.cto (hB:Holds B gl C) {f:FuncId} {o:Oper} {y:Operand} {fv:AV} {xs:Array Operand} {ts:Array TypeId} {args args0 caps args':List AV} {res res':AV} {M M':List (Nat×AO)} {nk nk':Nat} (ks:List Nat)(ho:o.op=.call { callee:=.value y,args:=xs,argTypes:=ts })(hc:∀ vs w,(callFunc f vs).run P w=.ok (.enter f vs) w)
  (hy:σ.ev y=some fv)(hf:fnOf fv=some (f,caps))(hx:σ.evs xs.toList=some args0)(hcat:args0++caps=args')(h:Cto B gl P f args M nk res M' nk')(hks:ksB ks nk σ.nk=true)(ha:args.map (AV.ren (rhoC ks nk σ.nk))=args')(hp:args.all (AV.inn nk)=true)(hM:TrM σ (rhoC ks nk σ.nk) nk M)
  (hle:Nat.ble nk nk'=true)(hinn:M'.all (fun x=>x.2.inn nk')=true)(hkm:M'.all (fun x=>Nat.blt x.1 nk')=true)(hri:res.inn nk'=true)(hr:res.ren (rhoC ks nk σ.nk)=res')(hd:dstOk C.N o.dst=true) :
  WO P C o σ ((⟨σ.t,renM (rhoC ks nk σ.nk) M'++remL ks σ.M,σ.nk+(nk'-nk)⟩:St).set o.dst res'):=by
 intro G a w ok N Q' hN
 obtain⟨cs,ey,h1,h2⟩:=fnOf_of hf (ok.evr hy).2
 obtain⟨hl,hR⟩:=ok.evl2 hx h1 h2 hcat
 refine call_wp ho hc ey (ok.ctoC hB ks hl hR h hks ha hp hM hle hinn hkm hri hr) fun e w1⟨v,G'',he,ok',hr',hb⟩=>⟨v,he,hN _ _ _ (ok'.set hr' hb (dstOk_of hd))⟩
theorem WV.mkf {f:FuncId} {o:Oper} {xs:Array Operand} {caps:List AV} (ho:o.op=.makeFunc (.func f) #[] xs)(hx:σ.evs xs.toList=some caps):WV P C o σ (.fn f caps) :=
 WV.val (fun G a w ok=>.fn f _ fun i x hx2=>by
  have:∀ {xs:List Operand} {l:List AV},σ.evs xs=some l→∀ (i:Nat) x,l[i]?=some x→Bd σ.nk x:=fun {xs}=>by
   induction xs with
   | nil=>intro l h i x hx;cases h;simp at hx
   | cons y r ih =>
    intro l h i x hx
    unfold St.evs at h
    cases h1:σ.ev y with
    | none=>simp [h1] at h
    | some av =>
     cases h2:σ.evs r with
     | none=>simp [h1,h2] at h
     | some l' =>
      simp [h1,h2] at h
      subst h
      cases i with
      | zero=>cases hx;exact (ok.evr h1).1
      | succ i=>exact ih h2 i x (by simpa using hx)
  exact this hx i x hx2) fun G a w ok=>by
  obtain⟨e1,e2⟩:=ok.evl hx
  refine⟨.func (.func f) #[] (xs.map a.eval),by unfold execOp;simp [ho,Instr.makeFunc],.fn f _ _ (by simpa using e1) fun i av u p q=>e2 i av u p (by rw [← q];simp)⟩
theorem WV.nch {o:Oper} {x:Operand} {k i j:Nat} (ho:o.op=.nilCheck x)(hx:σ.ev x=some (.pt k i j)):WV P C o σ (.pt k i j) :=
 WV.val (fun G a w ok=>(ok.evr hx).1) fun G a w ok=>by
  obtain⟨p,ep,p1,p2,p3⟩:=(ok.evr hx).2.pt_of
  exact⟨_,by unfold execOp;simp [ho,ep],.pt k i j p p1 p2 p3⟩
end
section
variable {B:World→View→Prop} {gl:Nat} {P:Program} {C:Cx} {ops:Array Oper} {o:Oper} {rest:List Oper} {Q:Exit→St→Prop} {d:Tmp}
def calE (σ:St):Op→Option (FuncId×List AV)
 | .call { callee:=.value y,args:=⟨xs⟩,argTypes:=_ } =>
  match σ.ev y,σ.evs xs with
  | some fv,some args0 =>
   match fnOf fv with
   | some (f,caps)=>some (f,args0++caps)
   | none=>none
  | _,_=>none
 | _=>none
theorem WL.cto (hB:Holds B gl C) {f:FuncId} {args args':List AV} {res res':AV} {M M' M2:List (Nat×AO)} {nk nk' n2:Nat} {t:List (Nat×AV)} {M0:List (Nat×AO)} {n0:Nat} (ks:List Nat) (hg:o.guard=none) (he:calE ⟨t,M0,n0⟩ o.op=some (f,args')) (hc:∀ vs w,(callFunc f vs).run P w=.ok (.enter f vs) w)
  (h:Cto B gl P f args M nk res M' nk') (hks:ksB ks nk n0=true) (ha:args.map (AV.ren (rhoC ks nk n0))=args') (hp:args.all (AV.inn nk)=true) (hM:TrM ⟨t,M0,n0⟩ (rhoC ks nk n0) nk M)
  (hq:(Nat.ble nk nk' && M'.all (fun x=>x.2.inn nk') && M'.all (fun x=>Nat.blt x.1 nk') && res.inn nk' && dstOk C.N o.dst)=true) (hr:res.ren (rhoC ks nk n0)=res') (hM2:renM (rhoC ks nk n0) M'++remL ks M0=M2) (hn2:n0+(nk' - nk)=n2)
  (k:WL P C ops rest ((⟨t,M2,n2⟩:St).set o.dst res') Q):WL P C ops (o::rest) ⟨t,M0,n0⟩ Q:=by
 subst hM2 hn2
 simp only [Bool.and_eq_true] at hq
 refine WL.op hg ?_ k
 unfold calE at he
 split at he
 ·rename_i y xs ts ho
  split at he
  ·rename_i fv args0 hy hx
   split at he
   ·rename_i f' caps hf
    cases he
    exact WO.cto (σ:=⟨t,M0,n0⟩) (xs:=⟨xs⟩) hB ks ho hc hy hf hx rfl h hks ha hp hM hq.1.1.1.1 hq.1.1.1.2 hq.1.1.2 hq.1.2 hr hq.2
   ·cases he
  ·cases he
 ·cases he
end
end
section
open Go.RowKit
section
variable {P:Program} {C:Cx} {σ σ':St} {o:Oper} {d:Tmp} {ops:Array Oper} {rest:List Oper} {Q:Exit→St→Prop}
structure MksD where
 e:TypeId
 z:Value
 m:Int
 n:Int
def mksV (P:Program) (σ:St):Op→Option MksD
 | .makeSlice T x y =>
  match P.underlying T,σ.ev x,σ.ev y with
  | some (.slice e),some (.sc (.int _ m)),some (.sc (.int _ n)) =>
   match P.info? e with
   | some i =>
    match i.zero with
    | some z=>bif z.oneCell' && Nat.beq i.size 1 && Nat.ble i.bytes 1000 then some ⟨e,z,m,n⟩else none
    | none=>none
   | none=>none
  | _,_,_=>none
 | _=>none
def partV (P:Program)(σ:St):Op→Option (Nat×List (List AV)×Int×Int)
 | .slice T x lo hi none =>
  match P.underlying T,σ.ev x with
  | some (.slice e),some (.ls n rows) =>
   match sizeB P e with
   | some m =>
    bif Nat.beq m n then
     match lo,hi with
     | none,none=>some (n,rows,0,rows.length)
     | some y,none =>
      match σ.ev y with
      | some (.sc (.int _ i))=>some (n,rows,i,rows.length)
      | _=>none
     | none,some z =>
      match σ.ev z with
      | some (.sc (.int _ j))=>some (n,rows,0,j)
      | _=>none
     | some y,some z =>
      match σ.ev y,σ.ev z with
      | some (.sc (.int _ i)),some (.sc (.int _ j))=>some (n,rows,i,j)
      | _,_=>none
    else none
   | none=>none
  | _,_=>none
 | _=>none
def prt {α:Type} (l:List α)(i j:Int):List α:=(l.take j.toNat).drop i.toNat
theorem run_sliceS {T e n:Nat} (hT:P.underlying T=some (.slice e)) (hn:sizeB P e=some n) (A:Option Addr) (len cap:Nat) (lo hi:Option Value) (i j:Int) (w:World)
  (hlo:(∃ k,lo=some (.int k i))∨(lo=none∧i=0)) (hhi:(∃ k,hi=some (.int k j))∨(hi=none∧j=len)) (hb:0≤i∧i≤j∧j≤len) (hc:len≤cap) :
  (Instr.slice T (.slice A len cap) lo hi none).run P w=.ok (.slice (if cap=i.toNat then A else A.map (·.add (i.toNat*n))) (j.toNat-i.toNat) (cap-i.toNat)) w:=by
 obtain ⟨i,rfl⟩:∃ q:Nat,i=q:=⟨i.toNat,by omega⟩
 obtain ⟨j,rfl⟩:∃ q:Nat,j=q:=⟨j.toNat,by omega⟩
 have h1:0≤(j:Int)∧(j:Int)≤(cap:Int):=by omega
 have h2:0≤(i:Int)∧(i:Int)≤(j:Int):=by omega
 rcases hlo with⟨k,rfl⟩|⟨rfl,hi⟩<;>rcases hhi with⟨k',rfl⟩|⟨rfl,hj⟩
 ·have h3:(i:Int)≤(j:Int):=by omega
  have h4:(j:Int)≤(cap:Int):=by omega
  simp [Instr.slice,run_underlying hT,Instr.sliceBounds,Instr.sliceBound,asIntOf,run_sizeB hn,show i≤j by omega,show j≤cap by omega]
 ·obtain rfl:j=len:=by omega
  simp [Instr.slice,run_underlying hT,Instr.sliceBounds,Instr.sliceBound,asIntOf,run_sizeB hn,show i≤j by omega]
 ·obtain rfl:i=0:=by omega
  simp [Instr.slice,run_underlying hT,Instr.sliceBounds,Instr.sliceBound,asIntOf,run_sizeB hn,show j≤cap by omega]
 ·obtain rfl:i=0:=by omega
  obtain rfl:j=len:=by omega
  simp [Instr.slice,run_underlying hT,Instr.sliceBounds,run_sizeB hn]
theorem partV_of {n:Nat} {rows:List (List AV)} {i j:Int} (h:partV P σ o.op=some (n,rows,i,j)) (hb:0≤i∧i≤j∧j≤rows.length):WV P C o σ (.ls n (prt rows i j)):=by
 unfold partV at h
 split at h
 ·rename_i T x lo hi ho
  split at h
  ·rename_i e n' rows' hT hx
   split at h
   ·rename_i m hm
    cases hbq:Nat.beq m n' with
    | false=>rw [hbq] at h;cases h
    | true =>
     rw [hbq] at h
     obtain rfl:=Nat.eq_of_beq_eq_true hbq
     simp only [cond_true] at h
     have key:(n=m∧rows=rows')∧∀ G a w,Ok C σ G a w→((∃ k,lo.map a.eval=some (.int k i))∨(lo.map a.eval=none∧i=0))∧((∃ k,hi.map a.eval=some (.int k j))∨(hi.map a.eval=none∧j=rows'.length)):=by
      split at h
      ·cases h;exact ⟨⟨rfl,rfl⟩,fun G a w ok=>⟨.inr ⟨rfl,rfl⟩,.inr ⟨rfl,rfl⟩⟩⟩
      ·split at h
       ·rename_i k i' hy;cases h;exact ⟨⟨rfl,rfl⟩,fun G a w ok=>⟨.inl ⟨k,by simp [ok.evs hy]⟩,.inr ⟨rfl,rfl⟩⟩⟩
       ·cases h
      ·split at h
       ·rename_i k i' hy;cases h;exact ⟨⟨rfl,rfl⟩,fun G a w ok=>⟨.inr ⟨rfl,rfl⟩,.inl ⟨k,by simp [ok.evs hy]⟩⟩⟩
       ·cases h
      ·split at h
       ·rename_i k i' k' j' hy hz;cases h;exact ⟨⟨rfl,rfl⟩,fun G a w ok=>⟨.inl ⟨k,by simp [ok.evs hy]⟩,.inl ⟨k',by simp [ok.evs hz]⟩⟩⟩
       ·cases h
     obtain ⟨⟨rfl,rfl⟩,hlh⟩:=key
     refine WV.val (fun _ _ _ _=>.ls _ _) fun G a w ok=>?_
     obtain ⟨A,cap,ad,u,e1,h1,h2,h3,h4,h5⟩:=(ok.evr hx).2.pu_of.ls_of
     obtain ⟨q1,q2⟩:=hlh G a w ok
     have hrun:=run_sliceS (P:=P) hT hm A rows.length cap (lo.map a.eval) (hi.map a.eval) i j w q1 q2 hb h5
     have hlen:(prt rows i j).length=j.toNat-i.toNat:=by unfold prt;simp;omega
     have hrow:∀ (q:Nat) r,(prt rows i j)[q]?=some r→rows[i.toNat+q]?=some r∧q<j.toNat-i.toNat:=fun q r hq=>by
      have hlt:=(List.getElem?_eq_some_iff.1 hq).1
      unfold prt at hq
      rw [List.getElem?_drop,List.getElem?_take] at hq
      split at hq
      ·exact ⟨hq,by omega⟩
      ·cases hq
     refine ⟨.slice (if cap=i.toNat then A else A.map (·.add (i.toNat*n))) (prt rows i j).length (cap-i.toNat),?_,.pu _ _ (.ls n _ _ _ (ad.add (i.toNat*n)) (fun q s=>u (i.toNat+q) s) (by rw [hlen];omega) (fun r hr=>?_) (fun hp=>?_) (fun q r s av a1 a2=>?_) fun q r s av a1 a2=>?_)⟩
     ·unfold execOp
      simp only [ho,e1,Option.map_none]
      rw [hlen]
      have hsa:∀ v,(Instr.sliceAt T (.slice A rows.length cap) (lo.map a.eval) (hi.map a.eval) none).run P w=.ok v w↔(Instr.slice T (.slice A rows.length cap) (lo.map a.eval) (hi.map a.eval) none).run P w=.ok v w:=fun v=>by
       unfold Instr.sliceAt
       rw [Sem.run_bind,run_underlying hT w];rfl
      rw [Sem.run_bind,(hsa _).2 hrun];rfl
     ·obtain ⟨q,hq,rfl⟩:=List.getElem_of_mem hr
      exact h1 _ (List.mem_of_getElem? (hrow q _ (List.getElem?_eq_getElem hq)).1)
     ·rw [hlen] at hp
      rw [if_neg (by omega),h2 (by omega)];rfl
     ·obtain ⟨b1,b2⟩:=hrow q r a1
      have:=h3 _ r s av b1 a2
      rw [add_of_add,← Nat.add_assoc,← Nat.add_mul];exact this
     ·exact h4 _ r s av (hrow q r a1).1 a2
   ·cases h
  ·cases h
 ·cases h
theorem WL.part_ {n:Nat} {rows rows':List (List AV)} {i j:Int} (hd:dstB C.N o=some d)(h:partV P σ o.op=some (n,rows,i,j))(hb:0≤i∧i≤j∧j≤rows.length)(he:prt rows i j=rows')(k:WL P C ops rest (σ.put d (.ls n rows')) Q):WL P C ops (o::rest) σ Q:=by
 subst he
 exact WL.vl hd (partV_of h hb) k
theorem DK.part_ {n:Nat} {rows rows':List (List AV)} {i j:Int} (hd:dstD C.N ops σ o=some d)(h:partV P (σ.only (o.looksAt ops)) o.op=some (n,rows,i,j))(hb:0≤i∧i≤j∧j≤rows.length)(he:prt rows i j=rows')(k:DK P C ops rest (σ.put d (.ls n rows')) Q):DK P C ops (o::rest) σ Q:=by
 subst he
 exact DK.vl hd (partV_of h hb) k
def cvtV (P:Program)(σ:St):Op→Option (IntKind×Int)
 | .convert S T x =>
  match P.underlying T,σ.ev x with
  | some (.int k),some (.sc (.int _ n))=>some (k,n)
  | _,_=>none
 | _=>none
theorem cvtV_of {k:IntKind} {n:Int} (h:cvtV P σ o.op=some (k,n))(hs:∀ S T x,o.op=.convert S T x→(P.underlying S).isSome=true):WV P C o σ (.sc (.int k (k.wrap n))):=by
 unfold cvtV at h
 split at h
 ·rename_i S T x ho
  split at h
  ·rename_i k' k2 n' hT hx
   cases h
   have:=hs S T x ho
   cases hS:P.underlying S with
   | none=>rw [hS]at this;cases this
   | some d=>exact WV.sc fun G a w ok=>by unfold execOp;simp [ho,ok.evs hx,convert,run_underlying hS,run_underlying hT,Conv.intToInt]
  ·cases h
 ·cases h
def cvtB(P:Program):Op→Bool
 | .convert S _ _=>(P.underlying S).isSome
 | _=>true
theorem WL.cvt {k:IntKind} {n m:Int} (hd:dstB C.N o=some d)(h:cvtV P σ o.op=some (k,n))(hs:cvtB P o.op=true)(hm:k.wrap n=m)(K:WL P C ops rest (σ.put d (.sc (.int k m))) Q):WL P C ops (o::rest) σ Q:=by
 subst hm
 exact WL.vl hd (cvtV_of h fun S T x e=>by rw [e] at hs;exact hs) K
def ldxV (P:Program)(σ:St):Op→Option (List AV×Nat)
 | .load T x =>
  match aggB P T,σ.ev x with
  | some false,some (.pt k 0 j) =>
   match look k σ.M with
   | some (.box _ cells)=>some (cells,j)
   | _=>none
  | _,_=>none
 | _=>none
def ldrV (P:Program)(σ:St):Op→Option (List (List AV)×Nat×Nat)
 | .load T x =>
  match aggB P T,σ.ev x with
  | some false,some (.pt k i j) =>
   match look k σ.M with
   | some (.row _ _ rows)=>some (rows,i,j)
   | _=>none
  | _,_=>none
 | _=>none
theorem ldrV_of {rows:List (List AV)} {i j:Nat} {r:List AV} {av:AV} (h:ldrV P σ o.op=some (rows,i,j)) (hi:rows[i]?=some r) (hj:r[j]?=some av) (ho2:av.own=false):WV P C o σ av:=by
 unfold ldrV at h
 split at h
 ·rename_i T x ho
  split at h
  ·rename_i k i' j' hT hx
   split at h
   ·rename_i T' n rows' hk
    cases h
    exact WV.load1 ho hT hx hk (l:=r.drop j) (by simp [AO.from_,hi]) (by simpa using hj) ho2
   ·cases h
  ·cases h
 ·cases h
theorem WL.ldr {rows:List (List AV)} {i j:Nat} {r:List AV} {av:AV} (hd:dstB C.N o=some d)(h:ldrV P σ o.op=some (rows,i,j))(hi:rows[i]?=some r)(hj:r[j]?=some av)(ho2:av.own=false)(k:WL P C ops rest (σ.put d av) Q):WL P C ops (o::rest) σ Q:=WL.vl hd (ldrV_of h hi hj ho2) k
end
end
section
open Go.RowKit
def locK {α:Type} [DecidableEq α] (k:α):Nat→List (α×Value)→Option (Nat×Value)
 | _,[]=>none
 | i,x::r=>if k=x.1 then some (i,x.2) else locK k (i+1) r
structure KeyK (P:Program) (kt:TypeId) {α:Type} [DecidableEq α] (enc:α→Value):Prop where
 chk:∀ w b k,(Instr.checkKey b 10000 kt (enc k)).run P w=.ok () w
 fnd:∀ w k (es:List MapEntry) (l:List (α×Value)),es.map (fun e=>(e.key,e.val))=l.map (fun x=>(enc x.1,x.2))→(Instr.findKey kt (enc k) es).run P w=.ok (locK k 0 l) w
 bits:∀ k,Instr.sameBits 10000 (enc k) (enc k)=true
section
variable {P:Program} {C:Cx} {σ σ':St} {G G':Gh} {a:Act} {w w':World} {o:Oper} {d:Tmp} {ops:Array Oper} {rest:List Oper} {Q:Exit→St→Prop}
theorem Ok.writeG (ok:Ok C σ G a w) {k g:Nat} {ob ob':AO} (hk:look k σ.M=some ob) (hg:G.fp k g) (hkept:Kept (fun x=>x=g) w w') (hob:ObAt G w' k ob') (hbd:ob'.bd σ.nk) :
  Ok C (σ.upd k ob') G a w':=by
 have hl:∀ k' o,look k' (σ.upd k ob').M=some o→(k'=k∧o=ob')∨(k'≠k∧look k' σ.M=some o):=fun k' o hx=>by
  by_cases e:k'=k
  ·subst e
   rw [show look k' (σ.upd k' ob').M=some ob' from look_set_same] at hx
   cases hx
   exact .inl ⟨rfl,rfl⟩
  ·rw [show look k' (σ.upd k ob').M=look k' σ.M from look_set_other e] at hx
   exact .inr ⟨e,hx⟩
 have hne:∀ k' o x,k'≠k→look k' σ.M=some o→G.fp k' x→x≠g:=fun k' o x e h1 h2 h3=>by
  subst h3;exact e (ok.dj k' o k ob x h1 hk h2 hg)
 have some_:∀ k' o,look k' (σ.upd k ob').M=some o→∃ o',look k' σ.M=some o':=fun k' o h=>by
  rcases hl k' o h with⟨rfl,_⟩|⟨_,y⟩
  ·exact ⟨ob,hk⟩
  ·exact ⟨o,y⟩
 refine ⟨ok.sz,ok.df,ok.tm,ok.bel.on hkept (fun x hx=>by subst hx;exact (ok.my k ob x hk hg).1),fun p u h=>?_,ok.f0,ok.f1,?_,?_,?_,?_⟩
 ·rw [World.cell?_of_block (hkept.block p.block (cell_block (ok.fw p u h)) (ok.dF k ob g p u hk hg h))];exact ok.fw p u h
 ·intro k' o x
  rcases hl k' o x with⟨rfl,rfl⟩|⟨e,y⟩
  ·exact ⟨(ok.ob k' ob hk).1,hbd,hob⟩
  ·exact ⟨(ok.ob k' o y).1,(ok.ob k' o y).2.1,(ok.ob k' o y).2.2.keep (Gh.le.refl _ _) (ok.ob k' o y).1 (ok.ob k' o y).2.1 rfl fun x hx=>hkept.block x (ok.my k' o x y hx).2 (hne k' o x e y hx)⟩
 ·intro k' o x h1 h2
  obtain ⟨o',y⟩:=some_ k' o h1
  exact ⟨(ok.my k' o' x y h2).1,Nat.lt_of_lt_of_le (ok.my k' o' x y h2).2 hkept.size⟩
 ·intro k1 o1 k2 o2 x h1 h2 h3 h4
  obtain ⟨o1',y1⟩:=some_ k1 o1 h1
  obtain ⟨o2',y2⟩:=some_ k2 o2 h2
  exact ok.dj k1 o1' k2 o2' x y1 y2 h3 h4
 ·intro k1 o1 x p u h1 h2 h3
  obtain ⟨o1',y1⟩:=some_ k1 o1 h1
  exact ok.dF k1 o1' x p u y1 h2 h3
end
end
section
open Go.RowKit
section
variable {P:Program} {C:Cx} {σ:St} {o:Oper} {d:Tmp} {ops:Array Oper} {rest:List Oper} {Q:Exit→St→Prop} {mem:List Bool} {Mc:List (Nat×AO)} {nk0 k:Nat}
theorem Tr.nilR {t:Tmp} (n:Nat) (h:look t σ.t=some (.sc (.slice none 0 0))):Tr C σ (σ.put t (.ls n [])):=fun G a w ok =>
 ⟨G,ok.reslot h (.ls _ _) fun v hv=>by rw [hv.sc_eq];exact .pu _ _ (.ls n [] none 0 ⟨0,0,none⟩ (fun _ _=>undef) (by simp) (by simp) (by simp) (by simp) (by simp))⟩
def truB:World→View→Prop:=fun _ _=>True
theorem truS:Stab truB 0:=⟨fun _ _ _=>Nat.zero_le _,fun _ _ _ _ _ _ _=>trivial⟩
theorem truH(C:Cx):Holds truB 0 C:=⟨fun _ _ _ _=>trivial,fun _ _=>Nat.zero_le _⟩
end
end
section
open Go.RowKit
section
variable {B:World→View→Prop} {gl:Nat} {P:Program} {C:Cx} {σ:St} {o:Oper} {d:Tmp} {ops:Array Oper} {rest:List Oper} {Q:Exit→St→Prop} {mem:List Bool} {Mc:List (Nat×AO)} {nk0 k:Nat}
theorem trM_same {σ σ':St} (h:σ'.M=σ.M) {ρ:Nat→Nat} {nk:Nat}:∀ {M:List (Nat×AO)},TrM σ ρ nk M→TrM σ' ρ nk M
 | [],_=>trivial
 | x::r,⟨h1,h2⟩=>⟨by rw [h];exact h1,trM_same h h2⟩
theorem DK.bt {φ:Prop} [i:Decidable φ] (hc:isCmp o.op=true)(h:stepD P C.N ops σ o=some (d,.sc (.bool (decide φ))))(hφ:φ)(k:DK P C ops rest (σ.put d (.sc (.bool true))) Q):DK P C ops (o::rest) σ Q:=by
 rw [decide_eq_true hφ] at h
 exact DK.st h k
theorem DK.bf {φ:Prop} [i:Decidable φ] (hc:isCmp o.op=true)(h:stepD P C.N ops σ o=some (d,.sc (.bool (decide φ))))(hφ:¬ φ)(k:DK P C ops rest (σ.put d (.sc (.bool false))) Q):DK P C ops (o::rest) σ Q:=by
 rw [decide_eq_false hφ] at h
 exact DK.st h k
end
end
section
open Go.RowKit
def fretsOf (cs:List (Int×Int×Bool)) (c:Int):Int:=(cs.getD (c.toNat-1) (0,0,false)).2.1
def stopE(p:Pce)(i:Int)(s:Stp)(last:Int):Int :=
 if s.1<1∨(p.cs.length:Int)<s.1 then 12
 else if s.2.1<0∨fretsOf p.cs s.1<s.2.1 then 13
 else if s.1≤last then 22
 else if(s.2.2.1<0∨3<s.2.2.1)∨(s.2.2.2.1<0∨4<s.2.2.2.1)then 23
 else if(s.2.2.2.2<0∨(longestN p.evs i s.1:Int)<s.2.2.2.2)∨(0<s.2.2.2.2∧s.2.1=0)then 24
 else 0
def stopsE(p:Pce)(i:Int):Int→List Stp→Int
 | _,[]=>0
 | last,s::r=>if stopE p i s last≠0 then stopE p i s last else stopsE p i s.1 r
def evE(p:Pce)(i:Int)(e:Ev):Int :=
 if sgOk e.val e.dot e.three=false∨(i=0∧e.val=0)then 20
 else if e.tie=true∧(0<e.stops.length∨i=0)then 21
 else stopsE p i 0 e.stops
def evsE (p:Pce):Nat→List Ev→Int
 | _,[]=>0
 | i,e::r=>if evE p i e≠0 then evE p i e else evsE p (i+1) r
def pceE(p:Pce):Int:=if insE p.cs p.st≠0 then insE p.cs p.st else if 400<p.evs.length then 2 else evsE p 0 p.evs
section
variable {p:Pce} {i last:Int} {s:Stp}
theorem stopE_ok(h:¬ (s.1<1∨(p.cs.length:Int)<s.1))(h1:¬ (s.2.1<0∨fretsOf p.cs s.1<s.2.1))(h2:¬ s.1≤last)(h3:¬ ((s.2.2.1<0∨3<s.2.2.1)∨(s.2.2.2.1<0∨4<s.2.2.2.1)))
  (h4:¬ ((s.2.2.2.2<0∨(longestN p.evs i s.1:Int)<s.2.2.2.2)∨(0<s.2.2.2.2∧s.2.1=0))):stopE p i s last=0:=by unfold stopE;rw [if_neg h,if_neg h1,if_neg h2,if_neg h3,if_neg h4]
end
end
section
open Go.RowKit
def lkIf(ok:Bool)(i c what:Int):List Lck:=if ok then []else [(i,c,what)]
def hasS(s n:Int):Bool:=if s=3 then n != 8 else if s=4 then n == 8 else true
def lackStop (s i:Int)(L:Int→Nat)(x:Stp):List Lck :=
 if pOk s x.1 x.2.1=false then [(i,x.1,1)] else lkIf (okR s x.2.2.1) i x.1 2++(lkIf (okG s x.2.2.2.1) i x.1 3++lkIf (okH s x.2.2.2.2 (L x.1)) i x.1 4)
def lackHead (s i:Int)(e:Ev):List Lck :=
 (if e.val=0 then lkIf (hasS s 6) i 0 6 else [])++((if e.three=true then lkIf (hasS s 5) i 0 5 else [])++(if e.tie=true then lkIf (hasS s 7) i 0 7 else if e.stops.length=0 then lkIf (hasS s 8) i 0 8 else []))
def lackE (s:Int)(p:Pce)(i:Int)(e:Ev):List Lck:=lackHead s i e++e.stops.flatMap (lackStop s i fun c=>longestN p.evs i c)
structure LkSt (w:World) (P E:Array Value) (i:Int) (l:List Lck) (wx:World):Prop where
 bel:Below w.heap.size w wx
 bp:Blk wx w.heap.size 30 P
 bi:Blk wx (w.heap.size+1) 3 #[.int .i64 i]
 be:Blk wx (w.heap.size+3) 90 E
 say:SayAt wx (w.heap.size+3) (w.heap.size+2) l
def lk1 (s i v:Int):List Lck:=if v=0 then lkIf (hasS s 6) i 0 6 else []
def lk2 (s i:Int)(t:Bool):List Lck:=if t=true then lkIf (hasS s 5) i 0 5 else []
def lk3 (s i:Int)(t:Bool)(n:Nat):List Lck:=if t=true then lkIf (hasS s 7) i 0 7 else if n=0 then lkIf (hasS s 8) i 0 8 else []
theorem lackE_eq (s:Int)(p:Pce)(i:Int)(e:Ev):lackE s p i e=(lk1 s i e.val++(lk2 s i e.three++lk3 s i e.tie e.stops.length))++e.stops.flatMap (lackStop s i fun c=>longestN p.evs i c):=rfl
end
section
open Go.RowKit
def eLk (x:Lck):List AV:=[.sc (.int .i64 x.1),.sc (.int .i64 x.2.1),.sc (.int .i64 x.2.2)]
theorem eqn_crs (x y:Int) (b:Bool) (w:World):(Op.equalIn 10000 117 (.agg #[.int .i64 x,.int .i64 y,.bool b]) (.agg #[.int .i64 x,.int .i64 y,.bool b])).run Tryz.prog w=.ok true w:=by
 rw [run_equalIn_agg w 9999 _ _ _ zqk zqk]
 refine Eq.trans (congrArg (fun fs=>Sem.run _ (Op.eqFields 9999 _ _ fs) w) (rfl:(Tryz.prog.fieldsOf 117).toList=[_,_,_])) ?_
 simp [go_sem]
theorem eqn_sign (x:Int) (a b:Bool) (w:World):(Op.equalIn 10000 87 (.agg #[.int .i64 x,.bool a,.bool b]) (.agg #[.int .i64 x,.bool a,.bool b])).run Tryz.prog w=.ok true w:=by
 rw [run_equalIn_agg w 9999 _ _ _ zqk zqk]
 refine Eq.trans (congrArg (fun fs=>Sem.run _ (Op.eqFields 9999 _ _ fs) w) (rfl:(Tryz.prog.fieldsOf 87).toList=[_,_,_])) ?_
 simp [go_sem]
theorem eqn_stp (x y z u v:Int) (w:World):(Op.equalIn 10000 69 (.agg #[.int .i64 x,.int .i64 y,.int .i64 z,.int .i64 u,.int .i64 v]) (.agg #[.int .i64 x,.int .i64 y,.int .i64 z,.int .i64 u,.int .i64 v])).run Tryz.prog w=.ok true w:=by
 rw [run_equalIn_agg w 9999 _ _ _ zqk zqk]
 refine Eq.trans (congrArg (fun fs=>Sem.run _ (Op.eqFields 9999 _ _ fs) w) (rfl:(Tryz.prog.fieldsOf 69).toList=[_,_,_,_,_])) ?_
 simp [go_sem]
theorem sameIns_FS (cs:List (Int×Int×Bool)) (st:List Int) (h1:cs.length≤64) (h2:st.length≤64):Ctr Tryz.prog 48 [.ag (eIns cs st),.ag (eIns cs st)] (.sc (.bool true)):=by
 refine zqe Tryz.func48 Tryz.ntmps48 fun w0 F0=>?_;dsimp only [St.init,number,Nat.reduceAdd]
 refine zqg54 ?_
 refine WL.partG rfl rfl rfl rfl (fun hp=>absurd hp (by simp)) (fun hp=>?_)
 refine zqg54 ?_
 (refine W.cond rfl (fun hif=>?_) (fun hif=>?_)<;>(try simp only [decide_eq_true_eq,decide_eq_false_iff_not,Int.not_lt,Int.not_le,Bool.not_eq_true',Bool.not_eq_false'] at hif))
 ·exact absurd hif (by simp)
 refine zqg54 ?_
 refine W.loop (fun k:Nat=>k≤cs.length) (fun k=>⟨[(2,.pt 0 0 0),(3,.pt 1 0 0),(5,.sc (.int .i64 k))],[(0,.box 27 (eIns cs st)),(1,.box 27 (eIns cs st))],2⟩) (fun k=>cs.length - k) 0 zqo (zqt id) fun k hk=>?_
 refine zqg54 ?_
 (refine W.cond rfl (fun hif=>?_) (fun hif=>?_)<;>(try simp only [decide_eq_true_eq,decide_eq_false_iff_not,Int.not_lt,Int.not_le,Bool.not_eq_true',Bool.not_eq_false'] at hif))
 ·have hk2:k < cs.length:=by omega
  refine zqg54 ?_
  refine W.drawK zqk zqk ?_
  repeat (first|refine DK.ff rfl (by first|(simp;done)|fail) ?_|refine DK.st rfl ?_|refine DK.idx rfl rfl (by omega) zqm ?_|refine DK.nil ?_)
  refine DK.vl rfl (WV.ane (b:=true) rfl rfl rfl rfl rfl zqk (fun w=>eqn_crs _ _ _ w)) ?_
  repeat (first|refine DK.ff rfl (by first|(simp;done)|fail) ?_|refine DK.st rfl ?_|refine DK.idx rfl rfl (by omega) zqm ?_|refine DK.nil ?_)
  refine zqg54 ?_
  exact ⟨k+1,by omega,by omega,(zqt id)⟩
 refine zqg54 ?_
 refine W.loop (fun k:Nat=>k≤st.length) (fun k=>⟨[(2,.pt 0 0 0),(3,.pt 1 0 0),(6,.sc (.int .i64 k))],[(0,.box 27 (eIns cs st)),(1,.box 27 (eIns cs st))],2⟩) (fun k=>st.length - k) 0 zqo (zqt id) fun k hk=>?_
 refine zqg54 ?_
 (refine W.cond rfl (fun hif=>?_) (fun hif=>?_)<;>(try simp only [decide_eq_true_eq,decide_eq_false_iff_not,Int.not_lt,Int.not_le,Bool.not_eq_true',Bool.not_eq_false'] at hif))
 ·have hk2:k < st.length:=by omega
  refine zqg54 ?_
  refine W.drawK zqk zqk ?_
  repeat (first|refine DK.ff rfl (by first|(simp;done)|fail) ?_|refine DK.st rfl ?_|refine DK.idx rfl rfl (by omega) zqm ?_|refine DK.nil ?_)
  refine zqg54 ?_
  exact ⟨k+1,by omega,by omega,(zqt id)⟩
 refine zqg54 ?_
 exact W.ret zqr
theorem sameEv_FS (e:Ev) (h:e.stops.length≤64):Ctr Tryz.prog 49 [.ag (eEv e),.ag (eEv e)] (.sc (.bool true)):=by
 refine zqe Tryz.func49 Tryz.ntmps49 fun w0 F0=>?_;dsimp only [St.init,number,Nat.reduceAdd]
 refine zqg54 ?_
 refine WL.partG rfl rfl rfl rfl (fun hp=>absurd hp (by simp)) (fun hp=>?_)
 refine zqg54 ?_
 refine WL.vl rfl (WV.ane (b:=true) rfl rfl rfl rfl rfl zqk (fun w=>eqn_sign _ _ _ w)) ?_
 refine zqg54 ?_
 refine WL.partG rfl rfl rfl rfl (fun hp=>absurd hp (by simp)) (fun hp=>?_)
 refine zqg54 ?_
 (refine W.cond rfl (fun hif=>?_) (fun hif=>?_)<;>(try simp only [decide_eq_true_eq,decide_eq_false_iff_not,Int.not_lt,Int.not_le,Bool.not_eq_true',Bool.not_eq_false'] at hif))
 ·exact absurd hif (by simp)
 refine zqg54 ?_
 refine W.loop (fun k:Nat=>k≤e.stops.length) (fun k=>⟨[(2,.pt 0 0 0),(3,.pt 1 0 0),(5,.sc (.int .i64 k))],[(0,.box 90 (eEv e)),(1,.box 90 (eEv e))],2⟩) (fun k=>e.stops.length - k) 0 zqo (zqt id) fun k hk=>?_
 refine zqg54 ?_
 (refine W.cond rfl (fun hif=>?_) (fun hif=>?_)<;>(try simp only [decide_eq_true_eq,decide_eq_false_iff_not,Int.not_lt,Int.not_le,Bool.not_eq_true',Bool.not_eq_false'] at hif))
 ·have hk2:k < e.stops.length:=by omega
  refine zqg54 ?_
  refine W.drawK zqk zqk ?_
  repeat (first|refine DK.st rfl ?_|refine DK.idx rfl rfl zqo zqm ?_|refine DK.nil ?_)
  refine DK.vl rfl (WV.ane (b:=true) rfl rfl rfl rfl rfl zqk (fun w=>eqn_stp _ _ _ _ _ w)) ?_
  repeat (first|refine DK.st rfl ?_|refine DK.idx rfl rfl zqo zqm ?_|refine DK.nil ?_)
  refine zqg54 ?_
  exact ⟨k+1,by omega,by omega,(zqt id)⟩
 refine zqg54 ?_
 exact W.ret zqr
theorem same_FS (p:Pce) (hO:PcOk p):Ctr Tryz.prog 13 [ePce p,ePce p] (.sc (.bool true)):=by
 refine zqe Tryz.func13 Tryz.ntmps13 fun w0 F0=>?_;dsimp only [St.init,number,Nat.reduceAdd]
 have hn3:=hO.n3
 refine zqg54 ?_
 refine WL.opv rfl rfl rfl (WV.call rfl (callF Tryz.func48 rfl rfl) rfl rfl (sameIns_FS p.cs p.st hO.n1 hO.n2)) ?_
 refine zqg54 ?_
 refine zqg54 ?_
 (refine W.cond rfl (fun hif=>?_) (fun hif=>?_)<;>(try simp only [decide_eq_true_eq,decide_eq_false_iff_not,Int.not_lt,Int.not_le,Bool.not_eq_true',Bool.not_eq_false'] at hif))
 ·exact absurd hif (by simp)
 refine zqg54 ?_
 refine W.loop (fun k:Nat=>k≤p.evs.length) (fun k=>⟨[(2,.pt 0 0 0),(3,.pt 1 0 0),(5,.sc (.int .i64 k))],[(0,.box 30 [.ls 3 (p.cs.map eCrs),.ls 1 (p.st.map eInt),.ls 6 (p.evs.map eEv)]),(1,.box 30 [.ls 3 (p.cs.map eCrs),.ls 1 (p.st.map eInt),.ls 6 (p.evs.map eEv)])],2⟩) (fun k=>p.evs.length - k) 0 zqo (zqt id) fun k hk=>?_
 refine zqg54 ?_
 (refine W.cond rfl (fun hif=>?_) (fun hif=>?_)<;>(try simp only [decide_eq_true_eq,decide_eq_false_iff_not,Int.not_lt,Int.not_le,Bool.not_eq_true',Bool.not_eq_false'] at hif))
 ·have hk2:k < p.evs.length:=by omega
  have h20:=hO.n4 k hk2
  refine zqg54 ?_
  refine W.drawK zqk zqk ?_
  repeat (first|refine DK.ff rfl (by first|(simp;done)|fail) ?_|refine DK.st rfl ?_|refine DK.idx rfl rfl (by omega) zqm ?_|refine DK.nil ?_)
  refine DK.vl rfl (WV.call rfl (callF Tryz.func49 rfl rfl) rfl rfl (sameEv_FS _ zqo)) ?_
  repeat (first|refine DK.ff rfl (by first|(simp;done)|fail) ?_|refine DK.st rfl ?_|refine DK.idx rfl rfl (by omega) zqm ?_|refine DK.nil ?_)
  refine zqg54 ?_
  exact ⟨k+1,by omega,by omega,(zqt id)⟩
 refine zqg54 ?_
 exact W.ret zqr
end
section
open Go.RowKit
def stM (s c f:Int)(l:List UInt8)(L:Int)(r g h:Nat):Bool:=decide (r≤3∧g≤4∧(h:Int)≤L∧(0<h→f≠0)) && (cellOk s c f r g h L && cellS s c f r g h L == l)
theorem stM_hf {s c f:Int} {l:List UInt8} {L:Int} {r g h:Nat} (x:0<h∧f=0):stM s c f l L r g h=false:=by
 unfold stM;simp [x]
theorem stM_ok {s c f:Int} {l:List UInt8} {L:Int} {r g h:Nat} (x:stM s c f l L r g h=true):(r≤3∧g≤4∧(h:Int)≤L∧(0<h→f≠0))∧cellOk s c f r g h L=true∧cellS s c f r g h L=l:=by
 unfold stM at x
 rw [Bool.and_eq_true,Bool.and_eq_true]at x
 exact⟨of_decide_eq_true x.1,x.2.1,by simpa using x.2.2⟩
end
end Go.Proofs.YthehkchjdkdbiaaGreatDoor
