/- Reading a piece: plain words: a list turned round in place; the first place of a word. -/
import Derived.Test.YthehkchjdkdbiaaGreatDoorEZGq
import Derived.Test.YthehkchjdkdbiaaGreatDoorPLgGq
import Derived.Lib.ByteType
set_option maxHeartbeats 1600000
set_option maxRecDepth 100000
set_option linter.unusedVariables false
set_option linter.unusedSimpArgs false
namespace Go.Proofs.YthehkchjdkdbiaaGreatDoor
section
open Go.RowKit
structure InsS (w:World)(B:Nat)(A1 A2:Option Addr)(cs:List (Int×Int×Bool))(st:List Int):Prop where
 out:InsAt w B A1 A2 cs st
end
section
open Go.RowKit
def fpM (G:Gh)(M:List (Nat×AO))(x:Nat):Prop:=∃ k o,look k M=some o∧G.fp k x
structure Obs (G:Gh)(w:World)(M:List (Nat×AO))(nk:Nat):Prop where
 fw:∀ p u,G.F p=some u→w.cell? p=some u
 ob:∀ k o,look k M=some o→k<nk∧o.bd nk∧ObAt G w k o
 my:∀ k o x,look k M=some o→G.fp k x→x<w.heap.size
 dj:∀ k o k' o' x,look k M=some o→look k' M=some o'→G.fp k x→G.fp k' x→k=k'
 dF:∀ k o x p u,look k M=some o→G.fp k x→G.F p=some u→p.block≠x
def Cto (B:World→View→Prop)(g:Nat)(P:Program)(f:FuncId)(args:List AV)(M:List (Nat×AO))(nk:Nat)(res:AV)(M':List (Nat×AO))(nk':Nat):Prop :=
 ∀ (w:World)(G:Gh)(vs:List Value),B w G.F→(∀ x,fpM G M x→g≤x)→Obs G w M nk→vs.length=args.length→(∀ (i:Nat) av u,args[i]?=some av→vs[i]?=some u→R G av u) →
  Calls P f vs.toArray w fun e w'=>∃ v G',e=.returned v∧Kept (fpM G M) w w'∧View.le G.F G'.F∧(∀ p u,G'.F p=some u→G.F p=some u∨w.heap.size≤p.block∨fpM G M p.block)∧Obs G' w' M' nk' ∧
   (∀ k o x,look k M'=some o→G'.fp k x→w.heap.size≤x∨fpM G M x)∧(∀ k,k<nk→G'.b k=G.b k∧G'.n k=G.n k∧G'.h k=G.h k)∧nk≤nk'∧Bd nk' res∧R G' res v
def QFinM (P:Program) (fn:Func) (C:Cx) (res:AV) (M':List (Nat×AO)) (nk':Nat):Exit→St→Prop:=fun e σ=>(e=.normal∨e=.ret) ∧
 ∀ G a w,Ok C σ G a w→∃ v G',(results fn a.tmps).run P w=.ok v w∧Ok C ⟨[],M',nk'⟩ G' a w∧Bd nk' res∧R G' res v
theorem Cto.intro {B:World→View→Prop} {g:Nat} (hS:Stab B g) {P:Program} {f:FuncId} {fn:Func} {c:Code} {args:List AV} {M:List (Nat×AO)} {nk:Nat} {res:AV} {M':List (Nat×AO)} {nk':Nat} (hf:P.funcs[f]?=some fn) (hb:fn.body=some c) {N:Nat} (hN:fn.ntmps=N) (hn:args.length≤N)
  (hp:args.all (AV.inn nk)=true)
  (h:∀ w0 F0 fp pg,Holds B g ⟨w0,F0,N,fp,nk,pg,[]⟩→W P ⟨w0,F0,N,fp,nk,pg,[]⟩ c ⟨number 0 args,M,nk⟩ (QFinM P fn ⟨w0,F0,N,fp,nk,pg,[]⟩ res M' nk')):Cto B g P f args M nk res M' nk':=by
 intro w G vs hB hlo hO hl hR
 subst hN
 refine calls_of_wp hf hb ?_
 have hH:Holds B g ⟨w,G.F,fn.ntmps,fpM G M,nk,G,[]⟩:=⟨fun w2 F2 k1 k2=>hS.2 w w2 G.F F2 (fun i hi=>k1.block i (Nat.lt_of_lt_of_le hi (hS.1 w G.F hB)) fun h=>by have:=hlo i h;omega) k2 hB,fun x hx=>hx.elim (fun h=>Nat.le_trans (hS.1 w G.F hB) h) (hlo x)⟩
 have h1:=h w G.F (fpM G M) G hH G { tmps:=vs.toArray++Array.replicate (fn.ntmps - vs.toArray.size) undef,defers:=[] } w
  ⟨by simp;omega,⟨rfl,Nat.le_refl _,fun k _=>⟨rfl,rfl,rfl⟩⟩,fun i av hx=>by
   obtain ⟨_,h2⟩:=look_number args 0 i av hx
   simp only [Nat.sub_zero] at h2
   have hi:i < args.length:=(List.getElem?_eq_some_iff.1 h2).1
   have hv:i < vs.length:=by omega
   refine ⟨by show i < fn.ntmps;omega,inn_bd (List.all_eq_true.1 hp av (List.mem_of_getElem? h2)),hR i av _ h2 ?_⟩
   simp [Array.getD_eq_getD_getElem?,Array.getElem?_append_left,hv],
   Kept.refl _ _,hO.fw,fun _ _ h=>h,fun _ _ h=>.inl h,hO.ob,(fun k o x h1 h2=>⟨.inr ⟨k,o,h1,h2⟩,hO.my k o x h1 h2⟩),hO.dj,hO.dF⟩
 refine wp_mono h1 fun e a w' ⟨σ,G1,⟨he,hfin⟩,ok⟩=>?_
 obtain ⟨v,G',hr,ok',hbd,hres⟩:=hfin G1 a w' ok
 have fin:∃ v' G'',Ending.returned v=.returned v'∧Kept (fpM G M) w w'∧View.le G.F G''.F∧(∀ p u,G''.F p=some u→G.F p=some u∨w.heap.size≤p.block∨fpM G M p.block)∧Obs G'' w' M' nk' ∧
   (∀ k o x,look k M'=some o→G''.fp k x→w.heap.size≤x∨fpM G M x)∧(∀ k,k < nk→G''.b k=G.b k∧G''.n k=G.n k∧G''.h k=G.h k)∧nk≤nk'∧Bd nk' res∧R G'' res v' :=
  ⟨v,G',rfl,ok'.bel,ok'.f0,ok'.f1,⟨ok'.fw,ok'.ob,fun k o x h1 h2=>(ok'.my k o x h1 h2).2,ok'.dj,ok'.dF⟩,fun k o x h1 h2=>(ok'.my k o x h1 h2).1,ok'.df.2.2,ok'.df.2.1,hbd,hres⟩
 rcases he with rfl|rfl
 ·exact ⟨ok'.df.1,v,hr,fin⟩
 ·exact ⟨ok'.df.1,v,hr,fin⟩
section
variable {P:Program} {C:Cx} {σ:St} {G:Gh} {a:Act} {w:World}
theorem resV_R (ok:Ok C σ G a w) {r:ResultVar} {av:AV} (h:resV P σ r=some av)(hp:ownB av=false):∃ v,(resOne a.tmps r).run P w=.ok v w∧R G av v∧Bd σ.nk av:=by
 cases r with
 | tmp t=>exact⟨a.tmps.getD t undef,rfl,(ok.tm t _ h).2.2,(ok.tm t _ h).2.1⟩
 | cell t T =>
  simp only [resV] at h
  split at h
  ·rename_i k ht
   split at h
   ·rename_i T' cells hk hT
    split at h
    ·rename_i n hn
     cases hb:Nat.beq cells.length n with
     | false=>rw [hb] at h;cases h
     | true =>
      rw [hb] at h
      cases h
      obtain⟨p,ep,p1,p2,p3⟩:=(ok.tm t _ ht).2.2.pt_of
      obtain⟨_,hbd,g3,cs,Φ,g4,g5,_,_,g6⟩:=ok.ob k _ hk
      obtain rfl:=addr_eq p1 p2 p3
      rw [Nat.zero_mul,Nat.zero_add] at ep
      have hown:=ownB_all hp
      refine⟨.agg cs,?_,.ag _ _ g5 fun i av u x y=>(g6 i av u x y).r (by simpa using List.all_eq_true.1 hown av (List.mem_of_getElem? x)),.ag _ fun i av x=>hbd i av x⟩
      unfold aggB at hT
      cases hu:P.underlying T with
      | none=>simp [hu] at hT
      | some d =>
       have hsz:sizeB P T=some cs.size:=by rw [hn,g5];exact congrArg some (Nat.eq_of_beq_eq_true hb).symm
       have:=results_cell_row (fn:={ (default:Func) with results:=#[.cell t T] }) rfl a.tmps w (G.b k) T' cs (0,0) d ep g4 hu (by rw [hu] at hT;cases d<;>simp_all) hsz
       have e:(results { (default:Func) with results:=#[.cell t T] } a.tmps).run P w=(resOne a.tmps (.cell t T)).run P w:=by
        unfold results resOne
        first|(simp;done)|(simp;rfl)
       rw [← e];exact this
    ·cases h
   ·cases h
  ·cases h
theorem resL_R (ok:Ok C σ G a w):∀ {l:List ResultVar} {avs:List AV},resL P σ l=some avs→avs.all (fun av=>!ownB av)=true→∃ vs:List Value,(l.mapM (resOne a.tmps)).run P w=.ok vs w∧vs.length=avs.length∧(∀ (i:Nat)av u,avs[i]?=some av→vs[i]?=some u→R G av u)∧∀ (i:Nat)av,avs[i]?=some av→Bd σ.nk av
 | [],avs,h,_=>by cases h;exact ⟨[],rfl,rfl,fun i av u x=>by simp at x,fun i av x=>by simp at x⟩
 | r::l,avs,h,hp=>by
  cases h1:resV P σ r with
  | none=>simp only [resL,h1]at h;cases h
  | some x =>
  cases h2:resL P σ l with
  | none=>simp only [resL,h1,h2]at h;cases h
  | some y =>
   simp only [resL,h1,h2,Option.some.injEq]at h
   subst h
   simp only [List.all_cons,Bool.and_eq_true,Bool.not_eq_true']at hp
   obtain ⟨v,e1,e2,e3⟩:=resV_R ok h1 hp.1
   obtain ⟨vs,f1,f2,f3,f4⟩:=resL_R ok h2 hp.2
   refine ⟨v::vs,by simp [List.mapM_cons,Sem.run_bind,e1,f1,Result.andThen],by simp [f2],fun i av u p q=>?_,fun i av p=>?_⟩
   ·cases i with
    | zero=>cases p;cases q;exact e2
    | succ i=>exact f3 i av u (by simpa using p) (by simpa using q)
   ·cases i with
    | zero=>cases p;exact e3
    | succ i=>exact f4 i av (by simpa using p)
def resT:List AV→AV
 | [x]=>x
 | l=>.tu l
theorem finM {fn:Func} {avs:List AV} {res:AV} {M':List (Nat×AO)} {nk':Nat} (h:resL P σ fn.results.toList=some avs) (hp:avs.all (fun av=>!ownB av)=true) (e:resT avs=res) (hM:σ.M=M') (hk:σ.nk=nk'):QFinM P fn C res M' nk' .ret σ:=by
 refine ⟨.inr rfl,fun G a w ok=>?_⟩
 subst e hM hk
 obtain ⟨vs,e1,e2,e3,e4⟩:=resL_R ok h hp
 have er:results fn a.tmps=(do let vs ← fn.results.mapM (resOne a.tmps);pure (if h:vs.size=1 then vs[0] else .tuple vs)):=rfl
 have run:(results fn a.tmps).run P w=.ok (if h:vs.toArray.size=1 then vs.toArray[0] else .tuple vs.toArray) w:=by
  rw [er,Array.mapM_eq_mapM_toList]
  simp only [Sem.run_bind,Sem.run_map,e1,Result.andThen]
  rfl
 have okE:Ok C ⟨[],σ.M,σ.nk⟩ G a w:=⟨ok.sz,ok.df,fun i av h=>(by cases h),ok.bel,ok.fw,ok.f0,ok.f1,ok.ob,ok.my,ok.dj,ok.dF⟩
 cases avs with
 | nil =>
  cases vs with
  | nil=>exact ⟨.tuple #[],G,run,okE,.tu _ fun i x hx=>by simp at hx,.tu _ _ rfl fun i av u x=>by simp at x⟩
  | cons v us=>cases e2
 | cons x r =>
  cases vs with
  | nil=>cases e2
  | cons v us =>
   cases r with
   | nil =>
    cases us with
    | nil=>exact ⟨v,G,run,okE,e4 0 x rfl,e3 0 x v rfl rfl⟩
    | cons u us=>cases e2
   | cons y r =>
    cases us with
    | nil=>cases e2
    | cons u us =>
     refine ⟨.tuple (v::u::us).toArray,G,?_,okE,.tu _ e4,.tu _ _ (by simpa using e2) fun i av u' p q=>e3 i av u' p (by simpa using q)⟩
     rw [run,dif_neg (by simp)]
end
theorem R.un0 {G:Gh} {ρ:Nat→Nat} {nk:Nat} {av:AV} {v:Value} (h:av.in0 nk=true) (r:R (G.ren ρ) av v):R G (av.ren0 ρ) v:=by
 cases av with
 | pt k i j=>obtain ⟨p,rfl,a,b,c⟩:=r.pt_of;exact .pt _ i j p a b c
 | sl k=>obtain ⟨rfl,b⟩:=r.sl_of;exact R.sl (G:=G) (ρ k) b
 | sc x=>rw [r.sc_eq];exact .pu _ _ (.sc x)
 | ls n rows=>exact .pu _ _ (show RP G.F _ _ from r.pu_of)
 | pr cells=>exact .pu _ _ (show RP G.F _ _ from r.pr_of)
 | ow T n rows=>exact r.no_ow.elim
 | _=>cases h
theorem R.un1 {G:Gh} {ρ:Nat→Nat} {nk:Nat} {av:AV} {v:Value} (h:av.in1 nk=true) (r:R (G.ren ρ) av v):R G (av.ren1 ρ) v:=by
 cases av with
 | fn f l =>
  obtain ⟨cs,rfl,h1,h2⟩:=r.fn_of
  refine .fn f _ cs (by simpa using h1) fun i av u x y=>?_
  rw [List.getElem?_map] at x
  cases hq:l[i]? with
  | none=>simp [hq] at x
  | some b=>simp [hq] at x;rw [← x];exact R.un0 (List.all_eq_true.1 h b (List.mem_of_getElem? hq)) (h2 i b u hq y)
 | ag l=>cases h
 | tu l=>cases h
 | pt k i j=>exact R.un0 (av:=.pt k i j) (nk:=nk) h r
 | sl k=>exact R.un0 (av:=.sl k) (nk:=nk) h r
 | sc x=>exact R.un0 (av:=.sc x) (nk:=nk) h r
 | ls n rows=>exact R.un0 (av:=.ls n rows) (nk:=nk) h r
 | ow T n rows=>exact R.un0 (av:=.ow T n rows) (nk:=nk) h r
 | pr cells=>exact R.un0 (av:=.pr cells) (nk:=nk) h r
theorem R.un2 {G:Gh} {ρ:Nat→Nat} {nk:Nat} {av:AV} {v:Value} (h:av.in2 nk=true) (r:R (G.ren ρ) av v):R G (av.ren2 ρ) v:=by
 cases av with
 | ag l =>
  obtain ⟨cs,rfl,h1,h2⟩:=r.ag_of
  refine .ag _ cs (by simpa using h1) fun i av u x y=>?_
  rw [List.getElem?_map] at x
  cases hq:l[i]? with
  | none=>simp [hq] at x
  | some b=>simp [hq] at x;rw [← x];exact R.un1 (List.all_eq_true.1 h b (List.mem_of_getElem? hq)) (h2 i b u hq y)
 | tu l=>cases h
 | fn f l=>exact R.un1 (av:=.fn f l) (nk:=nk) h r
 | pt k i j=>exact R.un1 (av:=.pt k i j) (nk:=nk) h r
 | sl k=>exact R.un1 (av:=.sl k) (nk:=nk) h r
 | sc x=>exact R.un1 (av:=.sc x) (nk:=nk) h r
 | ls n rows=>exact R.un1 (av:=.ls n rows) (nk:=nk) h r
 | ow T n rows=>exact R.un1 (av:=.ow T n rows) (nk:=nk) h r
 | pr cells=>exact R.un1 (av:=.pr cells) (nk:=nk) h r
theorem R.un {G:Gh} {ρ:Nat→Nat} {nk:Nat} {av:AV} {v:Value} (h:av.inn nk=true) (r:R (G.ren ρ) av v):R G (av.ren ρ) v:=by
 cases av with
 | tu l =>
  obtain ⟨cs,rfl,h1,h2⟩:=r.tu_of
  refine .tu _ cs (by simpa using h1) fun i av u x y=>?_
  rw [List.getElem?_map] at x
  cases hq:l[i]? with
  | none=>simp [hq] at x
  | some b=>simp [hq] at x;rw [← x];exact R.un2 (List.all_eq_true.1 h b (List.mem_of_getElem? hq)) (h2 i b u hq y)
 | ag l=>exact R.un2 (av:=.ag l) (nk:=nk) h r
 | fn f l=>exact R.un2 (av:=.fn f l) (nk:=nk) h r
 | pt k i j=>exact R.un2 (av:=.pt k i j) (nk:=nk) h r
 | sl k=>exact R.un2 (av:=.sl k) (nk:=nk) h r
 | sc x=>exact R.un2 (av:=.sc x) (nk:=nk) h r
 | ls n rows=>exact R.un2 (av:=.ls n rows) (nk:=nk) h r
 | ow T n rows=>exact R.un2 (av:=.ow T n rows) (nk:=nk) h r
 | pr cells=>exact R.un2 (av:=.pr cells) (nk:=nk) h r
theorem CR.un {G:Gh} {w:World} {ρ:Nat→Nat} {nk:Nat} {φ:Nat→Prop} {av:AV} {v:Value} (h:av.in1 nk=true)(r:CR (G.ren ρ) w φ av v):CR G w φ (av.ren1 ρ) v:=by
 rcases r with r|o
 ·exact .inl (R.un1 h r)
 ·by_cases ho:av.own=true
  ·cases av with
   | ow T n rows=>exact .inr o
   | _=>cases ho
  ·exact .inl (R.un1 h (.pu _ _ (OW.p o (by simpa using ho))))
theorem ObAt.un {G:Gh} {w:World} {ρ:Nat→Nat} {nk k:Nat} {ob:AO} (h:ob.inn nk=true) (g:ObAt (G.ren ρ) w k ob):ObAt G w (ρ k) (ob.ren ρ):=by
 cases ob with
 | box T cells =>
  obtain ⟨b1,cs,Φ,b2,b3,b4,b5,b6⟩:=g
  refine ⟨b1,cs,Φ,b2,by simpa using b3,b4,b5,fun i av u x y=>?_⟩
  rw [List.getElem?_map] at x
  cases hq:cells[i]? with
  | none=>simp [hq] at x
  | some b=>simp [hq] at x;rw [← x];exact CR.un (List.all_eq_true.1 h b (List.mem_of_getElem? hq)) (b6 i b u hq y)
 | row T n rows=>exact g
 | rwn T n rows=>exact g
 | rof T n rows hi hj y =>
  obtain ⟨g1,g2,g3⟩:=g
  refine ⟨g1,g2,g3.keep (fun _ _=>rfl) fun i r j av ψ u _ _ _ x=>?_⟩
  unfold XH at x ⊢
  by_cases e:i=hi∧j=hj
  ·rw [if_pos e] at x ⊢
   exact R.un1 h x
  ·rw [if_neg e] at x ⊢
   exact x
 | rwo T n rows hi hj y =>
  obtain ⟨g1,g2,g3⟩:=g
  refine ⟨g1,g2,g3.keep (fun _ _=>rfl) fun i r j av ψ u _ _ _ x=>?_⟩
  unfold XQ at x ⊢
  by_cases e:i=hi∧j=hj
  ·rw [if_pos e] at x ⊢
   exact R.un1 h x
  ·rw [if_neg e] at x ⊢
   exact x
 | bld T e l=>exact g
 | opq q=>exact g
def rhoC(ks:List Nat)(nk m q:Nat):Nat:=bif Nat.blt q nk then ks.getD q 0 else m+(q-nk)
def idx (q:Nat):List Nat→Option Nat
 | []=>none
 | x::r=>bif Nat.beq q x then some 0 else (idx q r).map (·+1)
theorem idx_some {q:Nat}:∀ {l:List Nat} {i:Nat},idx q l=some i→l[i]?=some q
 | [],i,h=>by cases h
 | x::r,i,h=>by
  unfold idx at h
  cases hb:Nat.beq q x with
  | true=>rw [hb]at h;cases h;rw [Nat.eq_of_beq_eq_true hb];rfl
  | false =>
   rw [hb]at h
   simp only [cond_false]at h
   obtain⟨j,h1,rfl⟩:=Option.map_eq_some_iff.1 h
   simpa using idx_some h1
def remL {α:Type} (ks:List Nat)(M:List (Nat×α)):List (Nat×α):=ks.foldr (fun k r=>rem k r) M
theorem look_remL {α:Type} (i:Nat):∀ (ks:List Nat)(M:List (Nat×α)),look i (remL ks M)=if i∈ks then none else look i M
 | [],M=>by simp [remL]
 | k::r,M=>by
  show look i (rem k (remL r M))=_
  rw [look_rem,look_remL i r M]
  by_cases e:i=k
  ·rw [if_pos e,if_pos (by simp [e])]
  ·rw [if_neg e]
   by_cases e2:i∈r
   ·rw [if_pos e2,if_pos (by simp [e2])]
   ·rw [if_neg e2,if_neg (by simp [e,e2])]
def renM (ρ:Nat→Nat):List (Nat×AO)→List (Nat×AO)
 | []=>[]
 | x::r=>(ρ x.1,x.2.ren ρ)::renM ρ r
theorem look_app_ {α:Type} (i:Nat):∀ (l r:List (Nat×α)),look i (l++r)=(look i l).or (look i r)
 | [],r=>by simp [look]
 | x::l,r=>by
  by_cases e:i=x.1
  ·subst e
   rw [List.cons_append,show look x.1 (x::(l++r))=some x.2 from look_set_same,show look x.1 (x::l)=some x.2 from look_set_same];rfl
  ·rw [List.cons_append,show look i (x::(l++r))=look i (l++r)from look_set_other e,show look i (x::l)=look i l from look_set_other e]
   exact look_app_ i l r
theorem look_renM {ρ:Nat→Nat} {q:Nat} {o:AO}:∀ {M:List (Nat×AO)},(∀ x∈M,∀ y∈M,ρ x.1=ρ y.1→x.1=y.1)→look q (renM ρ M)=some o→∃ i ob,q=ρ i∧look i M=some ob∧o=ob.ren ρ
 | [],_,h=>by cases h
 | x::r,hi,h=>by
  by_cases e:q=ρ x.1
  ·subst e
   rw [show look (ρ x.1) (renM ρ (x::r))=some (x.2.ren ρ) from look_set_same] at h
   cases h
   exact ⟨x.1,x.2,rfl,look_set_same,rfl⟩
  ·rw [show look q (renM ρ (x::r))=look q (renM ρ r) from look_set_other e] at h
   obtain ⟨i,ob,e1,e2,e3⟩:=look_renM (fun y hy z hz=>hi y (by simp [hy]) z (by simp [hz])) h
   refine ⟨i,ob,e1,?_,e3⟩
   rw [show look i (x::r)=look i r from look_set_other fun h=>e (by rw [e1,h])]
   exact e2
theorem AO.ren_bd {ρ:Nat→Nat} {nk nk2:Nat} {ob:AO} (h:ob.inn nk=true)(hρ:∀ i,i<nk→ρ i<nk2):(ob.ren ρ).bd nk2:=by
 have r0:∀ av:AV,av.in0 nk=true→Bd nk2 (av.ren0 ρ):=fun av h=>by
  cases av with
  | sc v=>exact .sc v
  | ls n rows=>exact .ls n rows
  | ow T n rows=>exact .ow T n rows
  | pr cells=>exact .pr cells
  | pt k i j=>exact .pt _ i j (hρ k (of_blt h))
  | sl k=>exact .sl _ (hρ k (of_blt h))
  | _=>cases h
 have r1:∀ b:AV,b.in1 nk=true→Bd nk2 (b.ren1 ρ):=fun b hb=>by
  cases b with
  | fn f l =>
   refine .fn f _ fun j x hx=>?_
   rw [List.getElem?_map] at hx
   cases hq2:l[j]? with
   | none=>simp [hq2] at hx
   | some c=>simp [hq2] at hx;rw [← hx];exact r0 c (List.all_eq_true.1 hb c (List.mem_of_getElem? hq2))
  | ag l=>cases hb
  | tu l=>cases hb
  | sc v=>exact r0 (.sc v) hb
  | ls n rows=>exact r0 (.ls n rows) hb
  | ow T n rows=>exact r0 (.ow T n rows) hb
  | pr cells=>exact r0 (.pr cells) hb
  | pt k i j=>exact r0 (.pt k i j) hb
  | sl k=>exact r0 (.sl k) hb
 cases ob with
 | box T cells =>
  intro i av hx
  have hx:(cells.map (AV.ren1 ρ))[i]?=some av:=hx
  rw [List.getElem?_map] at hx
  cases hq:cells[i]? with
  | none=>simp [hq] at hx
  | some b =>
   simp [hq] at hx
   rw [← hx]
   exact r1 b (List.all_eq_true.1 h b (List.mem_of_getElem? hq))
 | row T n rows=>trivial
 | rwn T n rows=>trivial
 | rof T n rows hi hj y=>exact r1 y h
 | rwo T n rows hi hj y=>exact r1 y h
 | bld T e l=>trivial
 | opq q=>trivial
theorem AV.ren_bd {ρ:Nat→Nat} {nk nk2:Nat} {av:AV} (h:av.inn nk=true) (hρ:∀ i,i<nk→ρ i<nk2):Bd nk2 (av.ren ρ):=by
 have r1:∀ av:AV,av.in1 nk=true→Bd nk2 (av.ren1 ρ):=fun av h=>by
  have:=AO.ren_bd (ob:=.box 0 [av]) (ρ:=ρ) (nk:=nk) (nk2:=nk2) (by simp [AO.inn,h]) hρ
  exact this 0 _ rfl
 have r2:∀ av:AV,av.in2 nk=true→Bd nk2 (av.ren2 ρ):=fun av h=>by
  cases av with
  | ag l =>
   refine .ag _ fun j x hx=>?_
   rw [List.getElem?_map] at hx
   cases hq2:l[j]? with
   | none=>simp [hq2] at hx
   | some c=>simp [hq2] at hx;rw [← hx];exact r1 c (List.all_eq_true.1 h c (List.mem_of_getElem? hq2))
  | fn f l=>exact r1 (.fn f l) h
  | tu l=>cases h
  | sc v=>exact r1 (.sc v) h
  | ls n rows=>exact r1 (.ls n rows) h
  | ow T n rows=>exact r1 (.ow T n rows) h
  | pr cells=>exact r1 (.pr cells) h
  | pt k i j=>exact r1 (.pt k i j) h
  | sl k=>exact r1 (.sl k) h
 cases av with
 | tu l =>
  refine .tu _ fun j x hx=>?_
  rw [List.getElem?_map] at hx
  cases hq2:l[j]? with
  | none=>simp [hq2] at hx
  | some c=>simp [hq2] at hx;rw [← hx];exact r2 c (List.all_eq_true.1 h c (List.mem_of_getElem? hq2))
 | ag l=>exact r2 (.ag l) h
 | fn f l=>exact r2 (.fn f l) h
 | sc v=>exact r2 (.sc v) h
 | ls n rows=>exact r2 (.ls n rows) h
 | ow T n rows=>exact r2 (.ow T n rows) h
 | pr cells=>exact r2 (.pr cells) h
 | pt k i j=>exact r2 (.pt k i j) h
 | sl k=>exact r2 (.sl k) h
def ksB (ks:List Nat)(nk m:Nat):Bool:=Nat.beq ks.length nk && injB id ks && nodB ks && ks.all (fun k=>Nat.blt k m)
where nodB : List Nat → Bool
  | [] => true
  | x :: r => !(r.any fun y => Nat.beq x y) && nodB r
theorem nod_of:∀ {ks:List Nat},ksB.nodB ks=true→ks.Nodup
 | [],_=>List.nodup_nil
 | x::r,h=>by
  simp only [ksB.nodB,Bool.and_eq_true,Bool.not_eq_true',List.any_eq_false]at h
  exact List.nodup_cons.2 ⟨fun hx=>h.1 x hx (Nat.beq_refl x),nod_of h.2⟩
theorem idx_of {q:Nat}:∀ {l:List Nat} {i:Nat},l.Nodup→l[i]?=some q→idx q l=some i
 | [],i,_,h=>by simp at h
 | x::r,0,_,h=>by cases h;unfold idx;rw [Nat.beq_refl];rfl
 | x::r,i+1,hn,h=>by
  have h:r[i]?=some q:=by simpa using h
  have hne:q≠x:=fun e=>(List.nodup_cons.1 hn).1 (e ▸ List.mem_of_getElem? h)
  have hb:Nat.beq q x=false:=by
   cases hb:Nat.beq q x with
   | false=>rfl
   | true=>exact absurd (Nat.eq_of_beq_eq_true hb) hne
  unfold idx
  rw [hb]
  simp only [cond_false]
  rw [idx_of (List.nodup_cons.1 hn).2 h];rfl
section
variable {B:World→View→Prop} {gl:Nat} {P:Program} {C:Cx} {σ:St} {G:Gh} {a:Act} {w w':World}
theorem Ok.cto (ok:Ok C σ G a w) {ks:List Nat} {M M':List (Nat×AO)} {nk nk':Nat} {G':Gh} (hks:ksB ks nk σ.nk=true) (hM:∀ k o,look k M=some o→k<nk∧∃ o2,look (ks.getD k 0) σ.M=some o2)
  (hMk:∀ x,fpM (G.ren (rhoC ks nk σ.nk)) M x→∃ k o,k<nk∧look (ks.getD k 0) σ.M=some o∧G.fp (ks.getD k 0) x)
  (hkept:Kept (fpM (G.ren (rhoC ks nk σ.nk)) M) w w') (hF:View.le G.F G'.F) (hnew:∀ p u,G'.F p=some u→G.F p=some u∨w.heap.size≤p.block∨fpM (G.ren (rhoC ks nk σ.nk)) M p.block) (hO:Obs G' w' M' nk')
  (hmy:∀ k o x,look k M'=some o→G'.fp k x→w.heap.size≤x∨fpM (G.ren (rhoC ks nk σ.nk)) M x) (hpin:∀ k,k<nk→G'.b k=(G.ren (rhoC ks nk σ.nk)).b k∧G'.n k=(G.ren (rhoC ks nk σ.nk)).n k∧G'.h k=(G.ren (rhoC ks nk σ.nk)).h k) (hle:nk≤nk')
  (hinn:M'.all (fun x=>x.2.inn nk')=true) (hkm:M'.all (fun x=>Nat.blt x.1 nk')=true) :
  ∃ G'',Ok C ⟨σ.t,renM (rhoC ks nk σ.nk) M'++remL ks σ.M,σ.nk+(nk'-nk)⟩ G'' a w'∧∀ av v,av.inn nk'=true→R G' av v→R G'' (av.ren (rhoC ks nk σ.nk)) v:=by
 simp only [ksB,Bool.and_eq_true] at hks
 obtain ⟨⟨⟨hk1,_⟩,hk3⟩,hk4⟩:=hks
 have hlen:=Nat.eq_of_beq_eq_true hk1
 have hnod:=nod_of hk3
 have hlt:∀ i,i<nk→ks.getD i 0<σ.nk:=fun i hi=>by
  rw [List.getD_eq_getElem?_getD,List.getElem?_eq_getElem (by omega)]
  exact of_blt (List.all_eq_true.1 hk4 _ (List.getElem_mem _))
 have hat:∀ i,i<nk→ks[i]?=some (ks.getD i 0):=fun i hi=>by
  rw [List.getD_eq_getElem?_getD,List.getElem?_eq_getElem (by omega)];rfl
 let ρ:=rhoC ks nk σ.nk
 have rlo:∀ i,i<nk→ρ i=ks.getD i 0:=fun i hi=>by
  show (bif Nat.blt i nk then _ else _)=_
  rw [show Nat.blt i nk=true from Nat.ble_eq_true_of_le hi];rfl
 have rhi:∀ i,nk≤i→ρ i=σ.nk+(i-nk):=fun i hi=>by
  show (bif Nat.blt i nk then _ else _)=_
  rw [show Nat.blt i nk=false from by
   cases h:Nat.blt i nk with
   | false=>rfl
   | true=>exact absurd (of_blt h) zqo];rfl
 let G'':Gh:=⟨G'.F,fun q=>if σ.nk≤q then G'.b (q-σ.nk+nk) else G.b q,fun q=>if σ.nk≤q then G'.n (q-σ.nk+nk) else G.n q,fun q=>if σ.nk≤q then G'.h (q-σ.nk+nk) else G.h q,
  fun q=>if σ.nk≤q then G'.fp (q-σ.nk+nk) else match idx q ks with
   | some i=>G'.fp i
   | none=>G.fp q⟩
 have hGle:G.le G'' σ.nk:=⟨hF,fun q hq=>if_neg zqo,fun q hq=>if_neg zqo,fun q hq=>if_neg zqo⟩
 have hren:G'.le (G''.ren ρ) nk':=by
  refine ⟨fun _ _ h=>h,fun i hi=>?_,fun i hi=>?_,fun i hi=>?_⟩
  all_goals
   show (if σ.nk≤ρ i then _ else _)=_
   by_cases h:i<nk
   ·rw [rlo i h,if_neg (by have:=hlt i h;omega)]
    first
     |exact (by rw [(hpin i h).1];show _=G.b (ρ i);rw [rlo i h])
     |exact (by rw [(hpin i h).2.1];show _=G.n (ρ i);rw [rlo i h])
     |exact (by rw [(hpin i h).2.2];show _=G.h (ρ i);rw [rlo i h])
   ·rw [rhi i (by omega),if_pos (by omega),show σ.nk+(i-nk)-σ.nk+nk=i by omega]
 have hrfp:∀ i,i<nk'→(G''.ren ρ).fp i=G'.fp i:=fun i hi=>by
  show (if σ.nk≤ρ i then _ else _)=_
  by_cases h:i<nk
  ·rw [rlo i h,if_neg (by have:=hlt i h;omega)]
   show (match idx (ks.getD i 0) ks with
    | some i=>G'.fp i
    | none=>G.fp (ks.getD i 0))=_
   rw [idx_of hnod (hat i h)]
  ·rw [rhi i (by omega),if_pos (by omega),show σ.nk+(i-nk)-σ.nk+nk=i by omega]
 have hρlt:∀ i,i<nk'→ρ i<σ.nk+(nk'-nk):=fun i hi=>by
  by_cases h:i<nk
  ·rw [rlo i h];have:=hlt i h;omega
  ·rw [rhi i (by omega)];omega
 have hρinj:∀ i j,ρ i=ρ j→i<nk'→j<nk'→i=j:=fun i j e hi hj=>by
  by_cases h:i<nk<;>by_cases h':j<nk
  ·rw [rlo i h,rlo j h'] at e
   have h1:=idx_of hnod (hat i h)
   have h2:=idx_of hnod (hat j h')
   rw [e,h2] at h1
   exact (Option.some.inj h1).symm
  ·rw [rlo i h,rhi j (by omega)] at e;have:=hlt i h;omega
  ·rw [rhi i (by omega),rlo j h'] at e;have:=hlt j h';omega
  ·rw [rhi i (by omega),rhi j (by omega)] at e;omega
 have kin:∀ x∈M',x.1<nk':=fun x hx=>of_blt (List.all_eq_true.1 hkm x hx)
 have lookM:∀ k o,look k (renM ρ M'++remL ks σ.M)=some o→(∃ i ob,k=ρ i∧look i M'=some ob∧o=ob.ren ρ∧i<nk'∧ob.inn nk'=true)∨(¬ k∈ks∧look k σ.M=some o∧k<σ.nk):=fun k o h=>by
  rw [look_app_] at h
  cases h1:look k (renM ρ M') with
  | some o1 =>
   rw [h1] at h
   simp only [Option.some_or,Option.some.injEq] at h
   subst h
   obtain ⟨i,ob,e1,e2,e3⟩:=look_renM (fun x hx y hy e=>hρinj _ _ e (kin x hx) (kin y hy)) h1
   have hx:i∈M'.map (·.1):=look_mem e2
   obtain ⟨y,hy,hyi⟩:=List.mem_map.1 hx
   have hi:i<nk':=by rw [← hyi];exact kin y hy
   refine .inl ⟨i,ob,e1,e2,e3,hi,?_⟩
   have:∀ {l:List (Nat×AO)},look i l=some ob→∃ z∈l,z.2=ob:=fun {l}=>by
    induction l with
    | nil=>intro h;cases h
    | cons z r ih =>
     intro h
     by_cases e:i=z.1
     ·rw [e,show look z.1 (z::r)=some z.2 from look_set_same] at h
      cases h
      exact ⟨z,by simp,rfl⟩
     ·rw [show look i (z::r)=look i r from look_set_other e] at h
      obtain ⟨z',h1,h2⟩:=ih h
      exact ⟨z',by simp [h1],h2⟩
   obtain ⟨z,hz,hz2⟩:=this e2
   rw [← hz2];exact List.all_eq_true.1 hinn z hz
  | none =>
   rw [h1] at h
   simp only [Option.none_or] at h
   rw [look_remL] at h
   by_cases e:k∈ks
   ·rw [if_pos e] at h;cases h
   ·rw [if_neg e] at h
    exact .inr ⟨e,h,(ok.ob k o h).1⟩
 have fpOut:∀ k,¬ k∈ks→k<σ.nk→G''.fp k=G.fp k:=fun k h1 h2=>by
  show (if σ.nk≤k then _ else _)=_
  rw [if_neg (by omega)]
  cases h3:idx k ks with
  | none=>rfl
  | some i=>exact absurd (List.mem_of_getElem? (idx_some h3)) h1
 have outS:∀ k o x,¬ k∈ks→look k σ.M=some o→G.fp k x→¬ fpM (G.ren (rhoC ks nk σ.nk)) M x:=fun k o x h1 h2 h3 h4=>by
  obtain ⟨i,o2,hi,h5,h6⟩:=hMk x h4
  have:=ok.dj k o _ o2 x h2 h5 h3 h6
  exact h1 (this ▸ List.mem_of_getElem? (hat i hi))
 have fF:∀ p u,G.F p=some u→w'.heap[p.block]?=w.heap[p.block]?:=fun p u h=>hkept.block _ (cell_block (ok.fw p u h)) fun hx=>by
  obtain ⟨i,o2,hi,h5,h6⟩:=hMk _ hx
  exact ok.dF _ o2 _ p u h5 h6 h rfl
 have may_:∀ x,fpM (G.ren (rhoC ks nk σ.nk)) M x→C.may x∧x<w.heap.size:=fun x h=>by
  obtain ⟨i,o2,hi,h5,h6⟩:=hMk x h
  exact ok.my _ o2 x h5 h6
 have mayN:∀ x,w.heap.size≤x→C.may x:=fun x h=>.inl (Nat.le_trans ok.bel.size h)
 have fpN:∀ k o x,look k (renM ρ M'++remL ks σ.M)=some o→G''.fp k x→(∃ i ob,k=ρ i∧look i M'=some ob∧i<nk'∧G'.fp i x)∨(¬ k∈ks∧look k σ.M=some o∧k<σ.nk∧G.fp k x):=fun k o x h1 h2=>by
  rcases lookM k o h1 with⟨i,ob,e1,e2,e3,e4,e5⟩|⟨e1,e2,e3⟩
  ·refine .inl ⟨i,ob,e1,e2,e4,?_⟩
   have:=hrfp i e4
   rw [← this]
   show G''.fp (ρ i) x
   rw [← e1];exact h2
  ·rw [fpOut k e1 e3] at h2
   exact .inr ⟨e1,e2,e3,h2⟩
 refine ⟨G'',⟨ok.sz,⟨ok.df.1,Nat.le_trans ok.df.2.1 (Nat.le_add_right _ _),fun k hk=>?_⟩,fun i av x=>⟨(ok.tm i av x).1,(ok.tm i av x).2.1.mono (Nat.le_add_right _ _),(ok.tm i av x).2.2.mono hGle (ok.tm i av x).2.1⟩,
  ok.bel.on hkept fun x hx=>(may_ x hx).1,hO.fw,fun p u x=>hF p u (ok.f0 p u x),fun p u x=>?_,fun k o x=>?_,fun k o x h1 h2=>?_,fun k o k' o' x h1 h2 h3 h4=>?_,fun k o x p u h1 h2 h3=>?_⟩,fun av v hin hr=>?_⟩
 ·have hk2:=Nat.lt_of_lt_of_le hk ok.df.2.1
  rw [hGle.b k hk2,hGle.n k hk2,hGle.h k hk2];exact ok.df.2.2 k hk
 ·rcases hnew p u x with h|h|h
  ·exact ok.f1 p u h
  ·exact .inr (mayN _ h)
  ·exact .inr (may_ _ h).1
 ·rcases lookM k o x with⟨i,ob,rfl,e2,rfl,e4,e5⟩|⟨e1,e2,e3⟩
  ·have h1:=hO.ob i ob e2
   have h2:ObAt (G''.ren ρ) w' i ob:=h1.2.2.keep hren h1.1 h1.2.1 (hrfp i e4) fun _ _=>rfl
   exact ⟨hρlt i e4,AO.ren_bd e5 hρlt,h2.un e5⟩
  ·have h1:=ok.ob k o e2
   exact ⟨Nat.lt_of_lt_of_le e3 (Nat.le_add_right _ _),AO.bd_mono (Nat.le_add_right _ _) h1.2.1,h1.2.2.keep hGle h1.1 h1.2.1 (fpOut k e1 e3) fun y hy=>hkept.block y (ok.my k o y e2 hy).2 (outS k o y e1 e2 hy)⟩
 ·rcases fpN k o x h1 h2 with⟨i,ob,e1,e2,e4,e5⟩|⟨e1,e2,e3,e4⟩
  ·refine ⟨?_,hO.my i ob x e2 e5⟩
   rcases hmy i ob x e2 e5 with h|h
   ·exact mayN x h
   ·exact (may_ x h).1
  ·exact ⟨(ok.my k o x e2 e4).1,Nat.lt_of_lt_of_le (ok.my k o x e2 e4).2 hkept.size⟩
 ·have cross:∀ i ob k o,look i M'=some ob→G'.fp i x→¬ k∈ks→look k σ.M=some o→G.fp k x→False:=fun i ob k o e2 e5 f1 f2 f4=>by
   rcases hmy i ob x e2 e5 with h|h
   ·have:=(ok.my k o x f2 f4).2;omega
   ·exact outS k o x f1 f2 f4 h
  rcases fpN k o x h1 h3 with⟨i,ob,e1,e2,e4,e5⟩|⟨e1,e2,e3,e4⟩
  ·rcases fpN k' o' x h2 h4 with⟨j,ob',f1,f2,f4,f5⟩|⟨f1,f2,f3,f4⟩
   ·rw [e1,f1,hO.dj i ob j ob' x e2 f2 e5 f5]
   ·exact (cross i ob k' o' e2 e5 f1 f2 f4).elim
  ·rcases fpN k' o' x h2 h4 with⟨j,ob',f1,f2,f4,f5⟩|⟨f1,f2,f3,f4⟩
   ·exact (cross j ob' k o f2 f5 e1 e2 e4).elim
   ·exact ok.dj k o k' o' x e2 f2 e4 f4
 ·rcases fpN k o x h1 h2 with⟨i,ob,e1,e2,e4,e5⟩|⟨e1,e2,e3,e4⟩
  ·exact hO.dF i ob x p u e2 e5 h3
  ·rcases hnew p u h3 with h|h|h
   ·exact ok.dF k o x p u e2 e4 h
   ·have:=(ok.my k o x e2 e4).2;omega
   ·intro e
    rw [e] at h
    exact outS k o x e1 e2 e4 h
 ·exact R.un hin (hr.mono hren (inn_bd hin))
theorem Ok.ctoC (ok:Ok C σ G a w) (hB:Holds B gl C) {f:FuncId} {args args':List AV} {res res':AV} {M M':List (Nat×AO)} {nk nk':Nat} (ks:List Nat) {vs:List Value} (hl:vs.length=args'.length) (hR:∀ (i:Nat) av u,args'[i]?=some av→vs[i]?=some u→R G av u)
  (h:Cto B gl P f args M nk res M' nk') (hks:ksB ks nk σ.nk=true) (ha:args.map (AV.ren (rhoC ks nk σ.nk))=args') (hp:args.all (AV.inn nk)=true) (hM:TrM σ (rhoC ks nk σ.nk) nk M)
  (hle:Nat.ble nk nk'=true) (hinn:M'.all (fun x=>x.2.inn nk')=true) (hkm:M'.all (fun x=>Nat.blt x.1 nk')=true) (hri:res.inn nk'=true) (hr:res.ren (rhoC ks nk σ.nk)=res') :
  Calls P f vs.toArray w fun e w1=>∃ v G'',e=.returned v∧Ok C ⟨σ.t,renM (rhoC ks nk σ.nk) M'++remL ks σ.M,σ.nk+(nk'-nk)⟩ G'' a w1∧R G'' res' v∧Bd (σ.nk+(nk'-nk)) res':=by
 subst hr
 have hks2:=hks
 simp only [ksB,Bool.and_eq_true] at hks2
 obtain ⟨⟨⟨hk1,_⟩,hk3⟩,hk4⟩:=hks2
 have hlen:=Nat.eq_of_beq_eq_true hk1
 have hnod:=nod_of hk3
 have rlo:∀ i,i<nk→rhoC ks nk σ.nk i=ks.getD i 0:=fun i hi=>by
  show (bif Nat.blt i nk then _ else _)=_
  rw [show Nat.blt i nk=true from Nat.ble_eq_true_of_le hi];rfl
 have hat:∀ i,i<nk→ks[i]?=some (ks.getD i 0):=fun i hi=>by
  rw [List.getD_eq_getElem?_getD,List.getElem?_eq_getElem (by omega)];rfl
 have hMat:∀ k o,look k M=some o→look (ks.getD k 0) σ.M=some (o.ren (rhoC ks nk σ.nk))∧o.inn nk=true∧k<nk:=fun k o h=>by
  obtain ⟨h1,h2,h3⟩:=hM.at_ k o h
  rw [rlo k h3] at h1
  exact ⟨h1,h2,h3⟩
 have hMk:∀ x,fpM (G.ren (rhoC ks nk σ.nk)) M x→∃ k o,k<nk∧look (ks.getD k 0) σ.M=some o∧G.fp (ks.getD k 0) x:=fun x ⟨k,o,h1,h2⟩=>by
  obtain ⟨h3,_,h4⟩:=hMat k o h1
  have h2:G.fp (rhoC ks nk σ.nk k) x:=h2
  rw [rlo k h4] at h2
  exact ⟨k,_,h4,h3,h2⟩
 have hO:Obs (G.ren (rhoC ks nk σ.nk)) w M nk:=by
  refine ⟨ok.fw,fun k o h=>?_,fun k o x h1 h2=>?_,fun k o k' o' x h1 h2 h3 h4=>?_,fun k o x p u h1 h2 h3=>?_⟩
  ·obtain ⟨h1,h2,h3⟩:=hM.at_ k o h
   have g:=(ok.ob _ _ h1).2.2
   exact ⟨h3,(ObAt.ren h2 g).1,(ObAt.ren h2 g).2⟩
  ·obtain ⟨h3,_,_⟩:=hM.at_ k o h1
   exact (ok.my _ _ x h3 h2).2
  ·obtain ⟨f1,_,f2⟩:=hM.at_ k o h1
   obtain ⟨f3,_,f4⟩:=hM.at_ k' o' h2
   have:=ok.dj _ _ _ _ x f1 f3 h3 h4
   rw [rlo k f2,rlo k' f4] at this
   have g1:=idx_of hnod (hat k f2)
   have g2:=idx_of hnod (hat k' f4)
   rw [this,g2] at g1
   exact (Option.some.inj g1).symm
  ·obtain ⟨f1,_,_⟩:=hM.at_ k o h1
   exact ok.dF _ _ x p u f1 h2 h3
 have hcalls:=h w (G.ren (rhoC ks nk σ.nk)) vs (hB.1 w G.F ok.bel ok.f0) (fun x hx=>by
   obtain ⟨k,o,_,h1,h2⟩:=hMk x hx
   exact hB.2 x (ok.my _ o x h1 h2).1) hO (by rw [hl,← ha];simp) fun i av u p q=>by
  have:args'[i]?=some (av.ren (rhoC ks nk σ.nk)):=by rw [← ha,List.getElem?_map,p];rfl
  exact R.ren_ (List.all_eq_true.1 hp av (List.mem_of_getElem? p)) (hR i _ u this q)
 refine hcalls.mono fun e w1 ⟨v,G',he,q1,q2,q3,q4,q5,q6,q7,q8,q9⟩=>?_
 obtain ⟨G'',ok',hres⟩:=ok.cto (M:=M) (M':=M') hks (fun k o h=>⟨(hMat k o h).2.2,_,(hMat k o h).1⟩) hMk q1 q2 q3 q4 q5 q6 (Nat.le_of_ble_eq_true hle) hinn hkm
 refine ⟨v,G'',he,ok',hres res v hri q9,AV.ren_bd hri fun i hi=>?_⟩
 show rhoC ks nk σ.nk i<σ.nk+(nk'-nk)
 by_cases h:i<nk
 ·rw [rlo i h]
  have:ks.getD i 0<σ.nk:=by
   rw [List.getD_eq_getElem?_getD,List.getElem?_eq_getElem (by omega)]
   exact of_blt (List.all_eq_true.1 hk4 _ (List.getElem_mem _))
  omega
 ·show (bif Nat.blt i nk then _ else _)<_
  rw [show Nat.blt i nk=false from by
   cases h2:Nat.blt i nk with
   | false=>rfl
   | true=>exact absurd (of_blt h2) h]
  show σ.nk+(i-nk)<_
  omega
def fnOf:AV→Option (FuncId×List AV)
 | .fn f l=>some (f,l)
 | .sc (.func (.func f) ⟨[]⟩ ⟨[]⟩)=>some (f,[])
 | _=>none
theorem fnOf_of {av:AV} {f:FuncId} {caps:List AV} {v:Value} (h:fnOf av=some (f,caps))(r:R G av v):∃ cs:Array Value,v=.func (.func f) #[] cs∧cs.size=caps.length∧∀ (i:Nat) av u,caps[i]?=some av→cs[i]?=some u→R G av u:=by
 unfold fnOf at h
 split at h
 ·cases h
  exact r.fn_of
 ·cases h
  exact⟨#[],r.sc_eq,rfl,fun i av u x=>by simp at x⟩
 ·cases h
theorem call_wp {f:FuncId} {o:Oper} {y:Operand} {xs:Array Operand} {ts:Array TypeId} {cs:Array Value} {R':Ending→World→Prop} {N:Act→World→Prop} {Q':Exit→Act→World→Prop} (ho:o.op=.call { callee:=.value y,args:=xs,argTypes:=ts })(hc:∀ vs w,(callFunc f vs).run P w=.ok (.enter f vs) w)
  (ey:a.eval y=.func (.func f) #[] cs)(h:Calls P f (xs.toList.map a.eval++cs.toList).toArray w R')(hN:∀ e w1,R' e w1→∃ v,e=.returned v∧N (a.put o.dst v) w1):o.wp P a w N Q':=by
 unfold Oper.wp execOp
 have e3:(#[]++xs.map a.eval++cs:Array Value)=(xs.toList.map a.eval++cs.toList).toArray:=by apply Array.ext';simp
 simp only [ho,resolve,ey,Deferred.ofValue,invoke,Sem.run_bind,Sem.run_pure,Result.andThen_ok,hc,Oper.upon,e3]
 refine h.mono fun e w1 hr=>?_
 obtain⟨v,rfl,hn⟩:=hN e w1 hr
 exact hn
theorem Ok.evl2 (ok:Ok C σ G a w) {xs:Array Operand} {args0 caps args':List AV} {cs:Array Value} (hx:σ.evs xs.toList=some args0)(h1:cs.size=caps.length)(h2:∀ (i:Nat)av u,caps[i]?=some av→cs[i]?=some u→R G av u)(ha:args0++caps=args') :
  (xs.toList.map a.eval++cs.toList).length=args'.length∧∀ (i:Nat)av u,args'[i]?=some av→(xs.toList.map a.eval++cs.toList)[i]?=some u→R G av u:=by
 obtain⟨e1,e2⟩:=ok.evl hx
 subst ha
 refine⟨by rw [List.length_append,List.length_append,e1];simpa using h1,fun i av u p q=>?_⟩
 by_cases hi:i<args0.length
 ·rw [List.getElem?_append_left hi]at p
  rw [List.getElem?_append_left (by omega)]at q
  exact e2 i av u p q
 ·rw [List.getElem?_append_right (by omega)]at p
  rw [List.getElem?_append_right (by omega),e1]at q
  exact h2 _ av u p (by simpa using q)
theorem WO.cto (hB:Holds B gl C) {f:FuncId} {o:Oper} {y:Operand} {fv:AV} {xs:Array Operand} {ts:Array TypeId} {args args0 caps args':List AV} {res res':AV} {M M':List (Nat×AO)} {nk nk':Nat} (ks:List Nat)(ho:o.op=.call { callee:=.value y,args:=xs,argTypes:=ts })(hc:∀ vs w,(callFunc f vs).run P w=.ok (.enter f vs) w)
  (hy:σ.ev y=some fv)(hf:fnOf fv=some (f,caps))(hx:σ.evs xs.toList=some args0)(hcat:args0++caps=args')(h:Cto B gl P f args M nk res M' nk')(hks:ksB ks nk σ.nk=true)(ha:args.map (AV.ren (rhoC ks nk σ.nk))=args')(hp:args.all (AV.inn nk)=true)(hM:TrM σ (rhoC ks nk σ.nk) nk M)
  (hle:Nat.ble nk nk'=true)(hinn:M'.all (fun x=>x.2.inn nk')=true)(hkm:M'.all (fun x=>Nat.blt x.1 nk')=true)(hri:res.inn nk'=true)(hr:res.ren (rhoC ks nk σ.nk)=res')(hd:dstOk C.N o.dst=true) :
  WO P C o σ ((⟨σ.t,renM (rhoC ks nk σ.nk) M'++remL ks σ.M,σ.nk+(nk'-nk)⟩:St).set o.dst res'):=by
 intro G a w ok N Q' hN
 obtain⟨cs,ey,h1,h2⟩:=fnOf_of hf (ok.evr hy).2
 obtain⟨hl,hR⟩:=ok.evl2 hx h1 h2 hcat
 refine call_wp ho hc ey (ok.ctoC hB ks hl hR h hks ha hp hM hle hinn hkm hri hr) fun e w1⟨v,G'',he,ok',hr',hb⟩=>⟨v,he,hN _ _ _ (ok'.set hr' hb (dstOk_of hd))⟩
theorem WV.mkf {f:FuncId} {o:Oper} {xs:Array Operand} {caps:List AV} (ho:o.op=.makeFunc (.func f) #[] xs)(hx:σ.evs xs.toList=some caps):WV P C o σ (.fn f caps) :=
 WV.val (fun G a w ok=>.fn f _ fun i x hx2=>by
  have:∀ {xs:List Operand} {l:List AV},σ.evs xs=some l→∀ (i:Nat) x,l[i]?=some x→Bd σ.nk x:=fun {xs}=>by
   induction xs with
   | nil=>intro l h i x hx;cases h;simp at hx
   | cons y r ih =>
    intro l h i x hx
    unfold St.evs at h
    cases h1:σ.ev y with
    | none=>simp [h1] at h
    | some av =>
     cases h2:σ.evs r with
     | none=>simp [h1,h2] at h
     | some l' =>
      simp [h1,h2] at h
      subst h
      cases i with
      | zero=>cases hx;exact (ok.evr h1).1
      | succ i=>exact ih h2 i x (by simpa using hx)
  exact this hx i x hx2) fun G a w ok=>by
  obtain⟨e1,e2⟩:=ok.evl hx
  refine⟨.func (.func f) #[] (xs.map a.eval),by unfold execOp;simp [ho,Instr.makeFunc],.fn f _ _ (by simpa using e1) fun i av u p q=>e2 i av u p (by rw [← q];simp)⟩
theorem WV.nch {o:Oper} {x:Operand} {k i j:Nat} (ho:o.op=.nilCheck x)(hx:σ.ev x=some (.pt k i j)):WV P C o σ (.pt k i j) :=
 WV.val (fun G a w ok=>(ok.evr hx).1) fun G a w ok=>by
  obtain⟨p,ep,p1,p2,p3⟩:=(ok.evr hx).2.pt_of
  exact⟨_,by unfold execOp;simp [ho,ep],.pt k i j p p1 p2 p3⟩
end
section
variable {B:World→View→Prop} {gl:Nat} {P:Program} {C:Cx} {ops:Array Oper} {o:Oper} {rest:List Oper} {Q:Exit→St→Prop} {d:Tmp}
def calE (σ:St):Op→Option (FuncId×List AV)
 | .call { callee:=.value y,args:=⟨xs⟩,argTypes:=_ } =>
  match σ.ev y,σ.evs xs with
  | some fv,some args0 =>
   match fnOf fv with
   | some (f,caps)=>some (f,args0++caps)
   | none=>none
  | _,_=>none
 | _=>none
theorem WL.cto (hB:Holds B gl C) {f:FuncId} {args args':List AV} {res res':AV} {M M' M2:List (Nat×AO)} {nk nk' n2:Nat} {t:List (Nat×AV)} {M0:List (Nat×AO)} {n0:Nat} (ks:List Nat) (hg:o.guard=none) (he:calE ⟨t,M0,n0⟩ o.op=some (f,args')) (hc:∀ vs w,(callFunc f vs).run P w=.ok (.enter f vs) w)
  (h:Cto B gl P f args M nk res M' nk') (hks:ksB ks nk n0=true) (ha:args.map (AV.ren (rhoC ks nk n0))=args') (hp:args.all (AV.inn nk)=true) (hM:TrM ⟨t,M0,n0⟩ (rhoC ks nk n0) nk M)
  (hq:(Nat.ble nk nk' && M'.all (fun x=>x.2.inn nk') && M'.all (fun x=>Nat.blt x.1 nk') && res.inn nk' && dstOk C.N o.dst)=true) (hr:res.ren (rhoC ks nk n0)=res') (hM2:renM (rhoC ks nk n0) M'++remL ks M0=M2) (hn2:n0+(nk' - nk)=n2)
  (k:WL P C ops rest ((⟨t,M2,n2⟩:St).set o.dst res') Q):WL P C ops (o::rest) ⟨t,M0,n0⟩ Q:=by
 subst hM2 hn2
 simp only [Bool.and_eq_true] at hq
 refine WL.op hg ?_ k
 unfold calE at he
 split at he
 ·rename_i y xs ts ho
  split at he
  ·rename_i fv args0 hy hx
   split at he
   ·rename_i f' caps hf
    cases he
    exact WO.cto (σ:=⟨t,M0,n0⟩) (xs:=⟨xs⟩) hB ks ho hc hy hf hx rfl h hks ha hp hM hq.1.1.1.1 hq.1.1.1.2 hq.1.1.2 hq.1.2 hr hq.2
   ·cases he
  ·cases he
 ·cases he
end
end
section
open Go.RowKit
def stM (s c f:Int)(l:List UInt8)(L:Int)(r g h:Nat):Bool:=decide (r≤3∧g≤4∧(h:Int)≤L∧(0<h→f≠0)) && (cellOk s c f r g h L && cellS s c f r g h L == l)
theorem stM_ok {s c f:Int} {l:List UInt8} {L:Int} {r g h:Nat} (x:stM s c f l L r g h=true):(r≤3∧g≤4∧(h:Int)≤L∧(0<h→f≠0))∧cellOk s c f r g h L=true∧cellS s c f r g h L=l:=by
 unfold stM at x
 rw [Bool.and_eq_true,Bool.and_eq_true]at x
 exact⟨of_decide_eq_true x.1,x.2.1,by simpa using x.2.2⟩
theorem stM_mk {s c f:Int} {l:List UInt8} {L:Int} {r g h:Nat} (a:r≤3∧g≤4∧(h:Int)≤L∧(0<h→f≠0))(b:cellOk s c f r g h L=true)(d:cellS s c f r g h L=l):stM s c f l L r g h=true:=by
 unfold stM
 rw [Bool.and_eq_true,Bool.and_eq_true]
 exact⟨decide_eq_true a,b,by simpa using d⟩
end
section
def tmLet:List UInt8:=[66,83,77,67,81,88,68]
def tW (v:Int)(i:Nat):List UInt8:=if v=0 then [45] else if i=0 then cut tmLet (v-1) v else if i=1 then cut tmLet (v-1) v++[46] else cut tmLet (v-1) v++[51]
def tOk (s v:Int)(i:Nat):Bool:=if v=0 then decide (s≠4)else (decide (i≠2)|| decide (s≠4))
def sgD(i:Nat):Bool:=i == 1
def sgT(i:Nat):Bool:=i == 2
def sgOk (v:Int)(d t:Bool):Bool:=(v == 0 && !d && !t)|| (decide (1≤v) && decide (v≤7) && !(d && t))
def sgI(d t:Bool):Nat:=if d then 1 else if t then 2 else 0
def tkV(v:Int)(d t:Bool):Int :=
 if v<1∨7<v∨(d && t)=true then 0 else if d then 384/2 ^ (v-1).toNat/2*3 else if t then 384/2 ^ (v-1).toNat/3*2 else 384/2 ^ (v-1).toNat
theorem tkAll:((List.range' 1 7).all fun v=>[(false,false),(true,false),(false,true)].all fun p=>decide (0<tkV (v:Nat) p.1 p.2))=true:=by decide +kernel
theorem tkV_pos (v:Int) (d t:Bool) (hv:1≤v∧v≤7) (h:(d && t)=false):0<tkV v d t:=by
 obtain ⟨v,rfl⟩:=Int.eq_ofNat_of_zero_le (show 0≤v by omega)
 have h1:=tkAll
 rw [List.all_eq_true]at h1
 have h2:=h1 v (List.mem_range'_1.2 zqo)
 rw [List.all_eq_true]at h2
 cases d<;>cases t
 ·exact of_decide_eq_true (h2 (false,false) (by simp))
 ·exact of_decide_eq_true (h2 (false,true) (by simp))
 ·exact of_decide_eq_true (h2 (true,false) (by simp))
 ·cases h
end
section
def tmM(s:Int)(l:List UInt8)(v i:Nat):Bool:=(v != 0|| i == 0) && (tOk s v i && tW v i == l)
def scanT (m:Nat→Nat→Bool)(v n:Nat):Option (Nat×Nat):=(List.range' v n).findSome? fun v=>((List.range 3).find? (m v)).map fun i=>(v,i)
theorem scanT_yes (m:Nat→Nat→Bool)(v n i:Nat)(h:(List.range 3).find? (m v)=some i):scanT m v (n+1)=some (v,i):=by
 simp only [scanT,List.range'_succ,List.findSome?_cons,h,Option.map_some]
theorem scanT_no (m:Nat→Nat→Bool)(v n:Nat)(h:(List.range 3).find? (m v)=none):scanT m v (n+1)=scanT m (v+1) n:=by
 simp only [scanT,List.range'_succ,List.findSome?_cons,h,Option.map_none]
theorem find3(m:Nat→Bool):(List.range 3).find? m=if m 0=true then some 0 else if m 1=true then some 1 else if m 2=true then some 2 else none:=by
 have:List.range 3=[0,1,2]:=rfl
 rw [this,List.find?_cons,List.find?_cons,List.find?_cons]
 cases m 0<;>cases m 1<;>cases m 2<;>rfl
open Go in
def ptV (o:Option (Nat×Nat)):Value :=
 match o with
 | some (v,i)=>.tuple #[.agg #[.int .i64 v,.bool (sgD i),.bool (sgT i)],.int .i64 0]
 | none=>.tuple #[.agg #[.int .i64 0,.bool false,.bool false],.int .i64 4]
def progSigns:List (Nat×Nat):=(List.range 8).flatMap fun v=>(List.range 3).map fun i=>(v,i)
theorem scanT_find (m:Nat→Nat→Bool):scanT m 0 8=progSigns.find? fun p=>m p.1 p.2:=by
 unfold scanT progSigns
 have:∀ l:List Nat,(l.findSome? fun v=>((List.range 3).find? (m v)).map fun i=>(v,i))=(l.flatMap fun v=>(List.range 3).map fun i=>(v,i)).find? fun p=>m p.1 p.2:=by
  intro l
  induction l with
  | nil=>rfl
  | cons v r ih =>
   rw [List.findSome?_cons,List.flatMap_cons,List.find?_append,ih,List.find?_map]
   have e:((fun p:Nat×Nat=>m p.1 p.2) ∘ fun i=>(v,i))=m v:=rfl
   rw [e]
   cases (List.range 3).find? (m v)<;>rfl
 rw [← List.range_eq_range']
 exact this _
end
section
open Go.RowKit
abbrev Lck:=Int×Int×Int
def lckCells(x:Lck):List Value:=[.int .i64 x.1,.int .i64 x.2.1,.int .i64 x.2.2]
def SayAt (w:World)(B0 b:Nat)(l:List Lck):Prop :=
 ∃ Q d,Blk w b 45 #[.slice Q l.length d]∧w.ownsRow B0 122 3 (.slice Q l.length d) l.length (l.map lckCells).flatten
end
section
open Go.RowKit
def lineV(s c n:Int):Int:=if s=4 then 0 else if s=2 then n+1-c else c
theorem insE_len {cs:List (Int×Int×Bool)} {st:List Int} (h:insE cs st=0):1≤cs.length∧cs.length≤14∧st.length≤18∧stepsBad 0 st=false∧crsE st cs=0:=by
 unfold insE at h
 by_cases h1:14<cs.length∨18<st.length
 ·rw [if_pos h1]at h;cases h
 ·rw [if_neg h1]at h
  by_cases h2:cs.length=0
  ·rw [if_pos h2]at h;cases h
  ·rw [if_neg h2]at h
   by_cases h3:stepsBad 0 st=true
   ·rw [if_pos h3]at h;cases h
   ·rw [if_neg h3]at h
    exact⟨by omega,by omega,by omega,by simpa using h3,h⟩
end
section
open Go.RowKit
def fretsOf (cs:List (Int×Int×Bool)) (c:Int):Int:=(cs.getD (c.toNat-1) (0,0,false)).2.1
def stopE(p:Pce)(i:Int)(s:Stp)(last:Int):Int :=
 if s.1<1∨(p.cs.length:Int)<s.1 then 12
 else if s.2.1<0∨fretsOf p.cs s.1<s.2.1 then 13
 else if s.1≤last then 22
 else if(s.2.2.1<0∨3<s.2.2.1)∨(s.2.2.2.1<0∨4<s.2.2.2.1)then 23
 else if(s.2.2.2.2<0∨(longestN p.evs i s.1:Int)<s.2.2.2.2)∨(0<s.2.2.2.2∧s.2.1=0)then 24
 else 0
def stopsE(p:Pce)(i:Int):Int→List Stp→Int
 | _,[]=>0
 | last,s::r=>if stopE p i s last≠0 then stopE p i s last else stopsE p i s.1 r
def evE(p:Pce)(i:Int)(e:Ev):Int :=
 if sgOk e.val e.dot e.three=false∨(i=0∧e.val=0)then 20
 else if e.tie=true∧(0<e.stops.length∨i=0)then 21
 else stopsE p i 0 e.stops
def evsE (p:Pce):Nat→List Ev→Int
 | _,[]=>0
 | i,e::r=>if evE p i e≠0 then evE p i e else evsE p (i+1) r
def pceE(p:Pce):Int:=if insE p.cs p.st≠0 then insE p.cs p.st else if 400<p.evs.length then 2 else evsE p 0 p.evs
theorem stopsE_at {p:Pce} {i last:Int} {l:List Stp} {k:Nat} (h:k<l.length):stopsE p i last (l.drop k)=if stopE p i l[k] last≠0 then stopE p i l[k] last else stopsE p i l[k].1 (l.drop (k+1)):=by
 rw [List.drop_eq_getElem_cons h];rfl
theorem evsE_at {p:Pce} {l:List Ev} {k:Nat} (h:k<l.length):evsE p k (l.drop k)=if evE p k l[k]≠0 then evE p k l[k]else evsE p (k+1) (l.drop (k+1)):=by
 rw [List.drop_eq_getElem_cons h];rfl
section
variable {p:Pce} {i last:Int} {s:Stp}
theorem stopE_crs(h:s.1<1∨(p.cs.length:Int)<s.1):stopE p i s last=12:=if_pos h
theorem stopE_fret(h:¬ (s.1<1∨(p.cs.length:Int)<s.1))(h1:s.2.1<0∨fretsOf p.cs s.1<s.2.1):stopE p i s last=13:=by unfold stopE;rw [if_neg h,if_pos h1]
theorem stopE_order(h:¬ (s.1<1∨(p.cs.length:Int)<s.1))(h1:¬ (s.2.1<0∨fretsOf p.cs s.1<s.2.1))(h2:s.1≤last):stopE p i s last=22:=by unfold stopE;rw [if_neg h,if_neg h1,if_pos h2]
theorem stopE_mark(h:¬ (s.1<1∨(p.cs.length:Int)<s.1))(h1:¬ (s.2.1<0∨fretsOf p.cs s.1<s.2.1))(h2:¬ s.1≤last)(h3:(s.2.2.1<0∨3<s.2.2.1)∨(s.2.2.2.1<0∨4<s.2.2.2.1)):stopE p i s last=23:=by unfold stopE;rw [if_neg h,if_neg h1,if_neg h2,if_pos h3]
theorem stopE_hold(h:¬ (s.1<1∨(p.cs.length:Int)<s.1))(h1:¬ (s.2.1<0∨fretsOf p.cs s.1<s.2.1))(h2:¬ s.1≤last)(h3:¬ ((s.2.2.1<0∨3<s.2.2.1)∨(s.2.2.2.1<0∨4<s.2.2.2.1)))
  (h4:(s.2.2.2.2<0∨(longestN p.evs i s.1:Int)<s.2.2.2.2)∨(0<s.2.2.2.2∧s.2.1=0)):stopE p i s last=24:=by unfold stopE;rw [if_neg h,if_neg h1,if_neg h2,if_neg h3,if_pos h4]
theorem stopE_ok(h:¬ (s.1<1∨(p.cs.length:Int)<s.1))(h1:¬ (s.2.1<0∨fretsOf p.cs s.1<s.2.1))(h2:¬ s.1≤last)(h3:¬ ((s.2.2.1<0∨3<s.2.2.1)∨(s.2.2.2.1<0∨4<s.2.2.2.1)))
  (h4:¬ ((s.2.2.2.2<0∨(longestN p.evs i s.1:Int)<s.2.2.2.2)∨(0<s.2.2.2.2∧s.2.1=0))):stopE p i s last=0:=by unfold stopE;rw [if_neg h,if_neg h1,if_neg h2,if_neg h3,if_neg h4]
end
theorem fretsOf_at {cs:List (Int×Int×Bool)} {q:Nat} (h:q<cs.length):fretsOf cs ((q:Int)+1)=cs[q].2.1:=by
 unfold fretsOf
 have:((q:Int)+1).toNat-1=q:=by omega
 rw [this,List.getD_eq_getElem?_getD,List.getElem?_eq_getElem h];rfl
end
section
open Go.RowKit
theorem pceE_ins {p:Pce} (h:insE p.cs p.st≠0):pceE p=insE p.cs p.st:=if_pos h
theorem pceE_many {p:Pce} (h:¬ insE p.cs p.st≠0)(h1:400<p.evs.length):pceE p=2:=by unfold pceE;rw [if_neg h,if_pos h1]
theorem pceE_evs {p:Pce} (h:¬ insE p.cs p.st≠0)(h1:¬ 400<p.evs.length):pceE p=evsE p 0 p.evs:=by unfold pceE;rw [if_neg h,if_neg h1]
end
section
open Go.RowKit
section
variable {P:Program} {C:Cx} {σ σ':St} {o:Oper} {d:Tmp} {ops:Array Oper} {rest:List Oper} {Q:Exit→St→Prop}
structure MksD where
 e:TypeId
 z:Value
 m:Int
 n:Int
def mksV (P:Program) (σ:St):Op→Option MksD
 | .makeSlice T x y =>
  match P.underlying T,σ.ev x,σ.ev y with
  | some (.slice e),some (.sc (.int _ m)),some (.sc (.int _ n)) =>
   match P.info? e with
   | some i =>
    match i.zero with
    | some z=>bif z.oneCell' && Nat.beq i.size 1 && Nat.ble i.bytes 1000 then some ⟨e,z,m,n⟩else none
    | none=>none
   | none=>none
  | _,_,_=>none
 | _=>none
def partV (P:Program)(σ:St):Op→Option (Nat×List (List AV)×Int×Int)
 | .slice T x lo hi none =>
  match P.underlying T,σ.ev x with
  | some (.slice e),some (.ls n rows) =>
   match sizeB P e with
   | some m =>
    bif Nat.beq m n then
     match lo,hi with
     | none,none=>some (n,rows,0,rows.length)
     | some y,none =>
      match σ.ev y with
      | some (.sc (.int _ i))=>some (n,rows,i,rows.length)
      | _=>none
     | none,some z =>
      match σ.ev z with
      | some (.sc (.int _ j))=>some (n,rows,0,j)
      | _=>none
     | some y,some z =>
      match σ.ev y,σ.ev z with
      | some (.sc (.int _ i)),some (.sc (.int _ j))=>some (n,rows,i,j)
      | _,_=>none
    else none
   | none=>none
  | _,_=>none
 | _=>none
def prt {α:Type} (l:List α)(i j:Int):List α:=(l.take j.toNat).drop i.toNat
theorem run_sliceS {T e n:Nat} (hT:P.underlying T=some (.slice e)) (hn:sizeB P e=some n) (A:Option Addr) (len cap:Nat) (lo hi:Option Value) (i j:Int) (w:World)
  (hlo:(∃ k,lo=some (.int k i))∨(lo=none∧i=0)) (hhi:(∃ k,hi=some (.int k j))∨(hi=none∧j=len)) (hb:0≤i∧i≤j∧j≤len) (hc:len≤cap) :
  (Instr.slice T (.slice A len cap) lo hi none).run P w=.ok (.slice (if cap=i.toNat then A else A.map (·.add (i.toNat*n))) (j.toNat-i.toNat) (cap-i.toNat)) w:=by
 obtain ⟨i,rfl⟩:∃ q:Nat,i=q:=⟨i.toNat,by omega⟩
 obtain ⟨j,rfl⟩:∃ q:Nat,j=q:=⟨j.toNat,by omega⟩
 have h1:0≤(j:Int)∧(j:Int)≤(cap:Int):=by omega
 have h2:0≤(i:Int)∧(i:Int)≤(j:Int):=by omega
 rcases hlo with⟨k,rfl⟩|⟨rfl,hi⟩<;>rcases hhi with⟨k',rfl⟩|⟨rfl,hj⟩
 ·have h3:(i:Int)≤(j:Int):=by omega
  have h4:(j:Int)≤(cap:Int):=by omega
  simp [Instr.slice,run_underlying hT,Instr.sliceBounds,Instr.sliceBound,asIntOf,run_sizeB hn,show i≤j by omega,show j≤cap by omega]
 ·obtain rfl:j=len:=by omega
  simp [Instr.slice,run_underlying hT,Instr.sliceBounds,Instr.sliceBound,asIntOf,run_sizeB hn,show i≤j by omega]
 ·obtain rfl:i=0:=by omega
  simp [Instr.slice,run_underlying hT,Instr.sliceBounds,Instr.sliceBound,asIntOf,run_sizeB hn,show j≤cap by omega]
 ·obtain rfl:i=0:=by omega
  obtain rfl:j=len:=by omega
  simp [Instr.slice,run_underlying hT,Instr.sliceBounds,run_sizeB hn]
theorem partV_of {n:Nat} {rows:List (List AV)} {i j:Int} (h:partV P σ o.op=some (n,rows,i,j)) (hb:0≤i∧i≤j∧j≤rows.length):WV P C o σ (.ls n (prt rows i j)):=by
 unfold partV at h
 split at h
 ·rename_i T x lo hi ho
  split at h
  ·rename_i e n' rows' hT hx
   split at h
   ·rename_i m hm
    cases hbq:Nat.beq m n' with
    | false=>rw [hbq] at h;cases h
    | true =>
     rw [hbq] at h
     obtain rfl:=Nat.eq_of_beq_eq_true hbq
     simp only [cond_true] at h
     have key:(n=m∧rows=rows')∧∀ G a w,Ok C σ G a w→((∃ k,lo.map a.eval=some (.int k i))∨(lo.map a.eval=none∧i=0))∧((∃ k,hi.map a.eval=some (.int k j))∨(hi.map a.eval=none∧j=rows'.length)):=by
      split at h
      ·cases h;exact ⟨⟨rfl,rfl⟩,fun G a w ok=>⟨.inr ⟨rfl,rfl⟩,.inr ⟨rfl,rfl⟩⟩⟩
      ·split at h
       ·rename_i k i' hy;cases h;exact ⟨⟨rfl,rfl⟩,fun G a w ok=>⟨.inl ⟨k,by simp [ok.evs hy]⟩,.inr ⟨rfl,rfl⟩⟩⟩
       ·cases h
      ·split at h
       ·rename_i k i' hy;cases h;exact ⟨⟨rfl,rfl⟩,fun G a w ok=>⟨.inr ⟨rfl,rfl⟩,.inl ⟨k,by simp [ok.evs hy]⟩⟩⟩
       ·cases h
      ·split at h
       ·rename_i k i' k' j' hy hz;cases h;exact ⟨⟨rfl,rfl⟩,fun G a w ok=>⟨.inl ⟨k,by simp [ok.evs hy]⟩,.inl ⟨k',by simp [ok.evs hz]⟩⟩⟩
       ·cases h
     obtain ⟨⟨rfl,rfl⟩,hlh⟩:=key
     refine WV.val (fun _ _ _ _=>.ls _ _) fun G a w ok=>?_
     obtain ⟨A,cap,ad,u,e1,h1,h2,h3,h4,h5⟩:=(ok.evr hx).2.pu_of.ls_of
     obtain ⟨q1,q2⟩:=hlh G a w ok
     have hrun:=run_sliceS (P:=P) hT hm A rows.length cap (lo.map a.eval) (hi.map a.eval) i j w q1 q2 hb h5
     have hlen:(prt rows i j).length=j.toNat-i.toNat:=by unfold prt;simp;omega
     have hrow:∀ (q:Nat) r,(prt rows i j)[q]?=some r→rows[i.toNat+q]?=some r∧q<j.toNat-i.toNat:=fun q r hq=>by
      have hlt:=(List.getElem?_eq_some_iff.1 hq).1
      unfold prt at hq
      rw [List.getElem?_drop,List.getElem?_take] at hq
      split at hq
      ·exact ⟨hq,by omega⟩
      ·cases hq
     refine ⟨.slice (if cap=i.toNat then A else A.map (·.add (i.toNat*n))) (prt rows i j).length (cap-i.toNat),?_,.pu _ _ (.ls n _ _ _ (ad.add (i.toNat*n)) (fun q s=>u (i.toNat+q) s) (by rw [hlen];omega) (fun r hr=>?_) (fun hp=>?_) (fun q r s av a1 a2=>?_) fun q r s av a1 a2=>?_)⟩
     ·unfold execOp
      simp only [ho,e1,Option.map_none]
      rw [hlen]
      have hsa:∀ v,(Instr.sliceAt T (.slice A rows.length cap) (lo.map a.eval) (hi.map a.eval) none).run P w=.ok v w↔(Instr.slice T (.slice A rows.length cap) (lo.map a.eval) (hi.map a.eval) none).run P w=.ok v w:=fun v=>by
       unfold Instr.sliceAt
       rw [Sem.run_bind,run_underlying hT w];rfl
      rw [Sem.run_bind,(hsa _).2 hrun];rfl
     ·obtain ⟨q,hq,rfl⟩:=List.getElem_of_mem hr
      exact h1 _ (List.mem_of_getElem? (hrow q _ (List.getElem?_eq_getElem hq)).1)
     ·rw [hlen] at hp
      rw [if_neg (by omega),h2 (by omega)];rfl
     ·obtain ⟨b1,b2⟩:=hrow q r a1
      have:=h3 _ r s av b1 a2
      rw [add_of_add,← Nat.add_assoc,← Nat.add_mul];exact this
     ·exact h4 _ r s av (hrow q r a1).1 a2
   ·cases h
  ·cases h
 ·cases h
theorem WL.part_ {n:Nat} {rows rows':List (List AV)} {i j:Int} (hd:dstB C.N o=some d)(h:partV P σ o.op=some (n,rows,i,j))(hb:0≤i∧i≤j∧j≤rows.length)(he:prt rows i j=rows')(k:WL P C ops rest (σ.put d (.ls n rows')) Q):WL P C ops (o::rest) σ Q:=by
 subst he
 exact WL.vl hd (partV_of h hb) k
theorem DK.part_ {n:Nat} {rows rows':List (List AV)} {i j:Int} (hd:dstD C.N ops σ o=some d)(h:partV P (σ.only (o.looksAt ops)) o.op=some (n,rows,i,j))(hb:0≤i∧i≤j∧j≤rows.length)(he:prt rows i j=rows')(k:DK P C ops rest (σ.put d (.ls n rows')) Q):DK P C ops (o::rest) σ Q:=by
 subst he
 exact DK.vl hd (partV_of h hb) k
def cvtV (P:Program)(σ:St):Op→Option (IntKind×Int)
 | .convert S T x =>
  match P.underlying T,σ.ev x with
  | some (.int k),some (.sc (.int _ n))=>some (k,n)
  | _,_=>none
 | _=>none
theorem cvtV_of {k:IntKind} {n:Int} (h:cvtV P σ o.op=some (k,n))(hs:∀ S T x,o.op=.convert S T x→(P.underlying S).isSome=true):WV P C o σ (.sc (.int k (k.wrap n))):=by
 unfold cvtV at h
 split at h
 ·rename_i S T x ho
  split at h
  ·rename_i k' k2 n' hT hx
   cases h
   have:=hs S T x ho
   cases hS:P.underlying S with
   | none=>rw [hS]at this;cases this
   | some d=>exact WV.sc fun G a w ok=>by unfold execOp;simp [ho,ok.evs hx,convert,run_underlying hS,run_underlying hT,Conv.intToInt]
  ·cases h
 ·cases h
def cvtB(P:Program):Op→Bool
 | .convert S _ _=>(P.underlying S).isSome
 | _=>true
theorem WL.cvt {k:IntKind} {n m:Int} (hd:dstB C.N o=some d)(h:cvtV P σ o.op=some (k,n))(hs:cvtB P o.op=true)(hm:k.wrap n=m)(K:WL P C ops rest (σ.put d (.sc (.int k m))) Q):WL P C ops (o::rest) σ Q:=by
 subst hm
 exact WL.vl hd (cvtV_of h fun S T x e=>by rw [e] at hs;exact hs) K
def ldxV (P:Program)(σ:St):Op→Option (List AV×Nat)
 | .load T x =>
  match aggB P T,σ.ev x with
  | some false,some (.pt k 0 j) =>
   match look k σ.M with
   | some (.box _ cells)=>some (cells,j)
   | _=>none
  | _,_=>none
 | _=>none
def ldrV (P:Program)(σ:St):Op→Option (List (List AV)×Nat×Nat)
 | .load T x =>
  match aggB P T,σ.ev x with
  | some false,some (.pt k i j) =>
   match look k σ.M with
   | some (.row _ _ rows)=>some (rows,i,j)
   | _=>none
  | _,_=>none
 | _=>none
theorem ldrV_of {rows:List (List AV)} {i j:Nat} {r:List AV} {av:AV} (h:ldrV P σ o.op=some (rows,i,j)) (hi:rows[i]?=some r) (hj:r[j]?=some av) (ho2:av.own=false):WV P C o σ av:=by
 unfold ldrV at h
 split at h
 ·rename_i T x ho
  split at h
  ·rename_i k i' j' hT hx
   split at h
   ·rename_i T' n rows' hk
    cases h
    exact WV.load1 ho hT hx hk (l:=r.drop j) (by simp [AO.from_,hi]) (by simpa using hj) ho2
   ·cases h
  ·cases h
 ·cases h
theorem WL.ldr {rows:List (List AV)} {i j:Nat} {r:List AV} {av:AV} (hd:dstB C.N o=some d)(h:ldrV P σ o.op=some (rows,i,j))(hi:rows[i]?=some r)(hj:r[j]?=some av)(ho2:av.own=false)(k:WL P C ops rest (σ.put d av) Q):WL P C ops (o::rest) σ Q:=WL.vl hd (ldrV_of h hi hj ho2) k
end
end
section
open Go.RowKit
def locK {α:Type} [DecidableEq α] (k:α):Nat→List (α×Value)→Option (Nat×Value)
 | _,[]=>none
 | i,x::r=>if k=x.1 then some (i,x.2) else locK k (i+1) r
structure KeyK (P:Program) (kt:TypeId) {α:Type} [DecidableEq α] (enc:α→Value):Prop where
 chk:∀ w b k,(Instr.checkKey b 10000 kt (enc k)).run P w=.ok () w
 fnd:∀ w k (es:List MapEntry) (l:List (α×Value)),es.map (fun e=>(e.key,e.val))=l.map (fun x=>(enc x.1,x.2))→(Instr.findKey kt (enc k) es).run P w=.ok (locK k 0 l) w
 bits:∀ k,Instr.sameBits 10000 (enc k) (enc k)=true
section
variable {P:Program} {C:Cx} {σ σ':St} {G G':Gh} {a:Act} {w w':World} {o:Oper} {d:Tmp} {ops:Array Oper} {rest:List Oper} {Q:Exit→St→Prop}
theorem Ok.writeG (ok:Ok C σ G a w) {k g:Nat} {ob ob':AO} (hk:look k σ.M=some ob) (hg:G.fp k g) (hkept:Kept (fun x=>x=g) w w') (hob:ObAt G w' k ob') (hbd:ob'.bd σ.nk) :
  Ok C (σ.upd k ob') G a w':=by
 have hl:∀ k' o,look k' (σ.upd k ob').M=some o→(k'=k∧o=ob')∨(k'≠k∧look k' σ.M=some o):=fun k' o hx=>by
  by_cases e:k'=k
  ·subst e
   rw [show look k' (σ.upd k' ob').M=some ob' from look_set_same] at hx
   cases hx
   exact .inl ⟨rfl,rfl⟩
  ·rw [show look k' (σ.upd k ob').M=look k' σ.M from look_set_other e] at hx
   exact .inr ⟨e,hx⟩
 have hne:∀ k' o x,k'≠k→look k' σ.M=some o→G.fp k' x→x≠g:=fun k' o x e h1 h2 h3=>by
  subst h3;exact e (ok.dj k' o k ob x h1 hk h2 hg)
 have some_:∀ k' o,look k' (σ.upd k ob').M=some o→∃ o',look k' σ.M=some o':=fun k' o h=>by
  rcases hl k' o h with⟨rfl,_⟩|⟨_,y⟩
  ·exact ⟨ob,hk⟩
  ·exact ⟨o,y⟩
 refine ⟨ok.sz,ok.df,ok.tm,ok.bel.on hkept (fun x hx=>by subst hx;exact (ok.my k ob x hk hg).1),fun p u h=>?_,ok.f0,ok.f1,?_,?_,?_,?_⟩
 ·rw [World.cell?_of_block (hkept.block p.block (cell_block (ok.fw p u h)) (ok.dF k ob g p u hk hg h))];exact ok.fw p u h
 ·intro k' o x
  rcases hl k' o x with⟨rfl,rfl⟩|⟨e,y⟩
  ·exact ⟨(ok.ob k' ob hk).1,hbd,hob⟩
  ·exact ⟨(ok.ob k' o y).1,(ok.ob k' o y).2.1,(ok.ob k' o y).2.2.keep (Gh.le.refl _ _) (ok.ob k' o y).1 (ok.ob k' o y).2.1 rfl fun x hx=>hkept.block x (ok.my k' o x y hx).2 (hne k' o x e y hx)⟩
 ·intro k' o x h1 h2
  obtain ⟨o',y⟩:=some_ k' o h1
  exact ⟨(ok.my k' o' x y h2).1,Nat.lt_of_lt_of_le (ok.my k' o' x y h2).2 hkept.size⟩
 ·intro k1 o1 k2 o2 x h1 h2 h3 h4
  obtain ⟨o1',y1⟩:=some_ k1 o1 h1
  obtain ⟨o2',y2⟩:=some_ k2 o2 h2
  exact ok.dj k1 o1' k2 o2' x y1 y2 h3 h4
 ·intro k1 o1 x p u h1 h2 h3
  obtain ⟨o1',y1⟩:=some_ k1 o1 h1
  exact ok.dF k1 o1' x p u y1 h2 h3
end
end
section
open Go.RowKit
section
variable {P:Program} {C:Cx} {σ:St} {o:Oper} {d:Tmp} {ops:Array Oper} {rest:List Oper} {Q:Exit→St→Prop} {mem:List Bool} {Mc:List (Nat×AO)} {nk0 k:Nat}
theorem Tr.nilR {t:Tmp} (n:Nat) (h:look t σ.t=some (.sc (.slice none 0 0))):Tr C σ (σ.put t (.ls n [])):=fun G a w ok =>
 ⟨G,ok.reslot h (.ls _ _) fun v hv=>by rw [hv.sc_eq];exact .pu _ _ (.ls n [] none 0 ⟨0,0,none⟩ (fun _ _=>undef) (by simp) (by simp) (by simp) (by simp) (by simp))⟩
def truB:World→View→Prop:=fun _ _=>True
theorem truS:Stab truB 0:=⟨fun _ _ _=>Nat.zero_le _,fun _ _ _ _ _ _ _=>trivial⟩
theorem truH(C:Cx):Holds truB 0 C:=⟨fun _ _ _ _=>trivial,fun _ _=>Nat.zero_le _⟩
end
end
section
open Go.RowKit
section
variable {B:World→View→Prop} {gl:Nat} {P:Program} {C:Cx} {σ:St} {o:Oper} {d:Tmp} {ops:Array Oper} {rest:List Oper} {Q:Exit→St→Prop} {mem:List Bool} {Mc:List (Nat×AO)} {nk0 k:Nat}
theorem trM_same {σ σ':St} (h:σ'.M=σ.M) {ρ:Nat→Nat} {nk:Nat}:∀ {M:List (Nat×AO)},TrM σ ρ nk M→TrM σ' ρ nk M
 | [],_=>trivial
 | x::r,⟨h1,h2⟩=>⟨by rw [h];exact h1,trM_same h h2⟩
theorem DK.bt {φ:Prop} [i:Decidable φ] (hc:isCmp o.op=true)(h:stepD P C.N ops σ o=some (d,.sc (.bool (decide φ))))(hφ:φ)(k:DK P C ops rest (σ.put d (.sc (.bool true))) Q):DK P C ops (o::rest) σ Q:=by
 rw [decide_eq_true hφ] at h
 exact DK.st h k
theorem DK.bf {φ:Prop} [i:Decidable φ] (hc:isCmp o.op=true)(h:stepD P C.N ops σ o=some (d,.sc (.bool (decide φ))))(hφ:¬ φ)(k:DK P C ops rest (σ.put d (.sc (.bool false))) Q):DK P C ops (o::rest) σ Q:=by
 rw [decide_eq_false hφ] at h
 exact DK.st h k
end
end
section
open Go.RowKit
def lendB (M:List (Nat×AO)):AV→AV
 | .sl k=>match look k M with
  | some (.row _ n rows)=>.ls n rows
  | _=>.sl k
 | av=>av
section
variable {B:World→View→Prop} {gl:Nat} {P:Program} {C:Cx} {ops:Array Oper} {rest:List Oper} {σ σ':St} {G G':Gh} {a:Act} {w w':World} {o:Oper} {d:Tmp} {Q:Exit→St→Prop}
theorem truST:∀ w F F',View.le F F'→truB w F→truB w F':=fun _ _ _ _ h=>h
def sixV (P:Program) (σ:St):Op→Option (List UInt8×Int)
 | .index T x y =>
  match P.underlying T,σ.ev x,σ.ev y with
  | some .string,some (.sc (.string ⟨⟨s⟩⟩)),some (.sc (.int _ i))=>some (s,i)
  | _,_,_=>none
 | _=>none
theorem run_six {T:TypeId} {s:List UInt8} {k:IntKind} {i:Int} (hT:P.underlying T=some .string) (h0:0≤i) (h1:i<s.length) :
  (Instr.index T (.string (bs s)) (.int k i)).run P w=.ok (.int .u8 ((s.getD i.toNat 0).toNat:Int)) w:=by
 have hl:i.toNat<s.length:=by omega
 have e:(bs s)[i.toNat]?=some (s.getD i.toNat 0):=by
  rw [List.getD_eq_getElem?_getD,List.getElem?_eq_getElem hl]
  have hs:i.toNat<(bs s).size:=by rw [bs_size];exact hl
  rw [getElem?_pos (bs s) i.toNat hs]
  rfl
 simp [Instr.index,asIntOf,run_underlying hT,h0,e]
theorem sixV_of {s:List UInt8} {i:Int} (h:sixV P σ o.op=some (s,i)) (hb:0≤i∧i<s.length):WV P C o σ (.sc (.int .u8 ((s.getD i.toNat 0).toNat:Int))):=by
 unfold sixV at h
 split at h
 ·rename_i T x y ho
  split at h
  ·rename_i s' k i' hT hx hy
   cases h
   refine WV.sc fun G a w ok=>?_
   unfold execOp
   simp only [ho,ok.evs hx,ok.evs hy,Sem.run_bind]
   have h6:(Instr.index T (.string ⟨⟨s⟩⟩) (.int k i)).run P w=.ok (.int .u8 ((s.getD i.toNat 0).toNat:Int)) w:=run_six hT hb.1 hb.2
   rw [h6];rfl
  ·cases h
 ·cases h
theorem WL.six {s:List UInt8} {i:Int} (hd:dstB C.N o=some d)(h:sixV P σ o.op=some (s,i))(hb:0≤i∧i<s.length)(k:WL P C ops rest (σ.put d (.sc (.int .u8 ((s.getD i.toNat 0).toNat:Int)))) Q):WL P C ops (o::rest) σ Q :=
 WL.vl hd (sixV_of h hb) k
end
end
section
open Go.RowKit
def onB:AV→Bool
 | .sc v=>v.oneCell'
 | .ls _ _=>true
 | _=>false
section
variable {B:World→View→Prop} {gl:Nat} {P:Program} {C:Cx} {ops:Array Oper} {rest:List Oper} {σ σ':St} {G G':Gh} {a:Act} {w w':World} {o:Oper} {d:Tmp} {Q:Exit→St→Prop}
theorem onB_of {av:AV} {u:Value} (h:onB av=true)(r:R G av u):u.oneCell'=true∧RP G.F av u∧av.own=false:=by
 cases av with
 | sc v =>
  obtain rfl:=r.sc_eq
  exact⟨h,.sc _,rfl⟩
 | ls n rows =>
  have h2:RP G.F (.ls n rows) u:=(pu2_bd (av:=.ls n rows) rfl 0).rp r
  obtain⟨A,cap,ad,u',rfl,_⟩:=h2.ls_of
  exact⟨rfl,h2,rfl⟩
 | _=>cases h
end
end
section
open Go.RowKit
def Calm(W w:World):Prop:=Below W.heap.size W w
theorem wp_region_calm {P:Program} {id:Nat} {Q:Exit→Act→World→Prop} {a:Act} {w:World} {l:List Oper} (W:World) (hm:P.follows .mixedOrders=true) (hB:Region.lexB .any l.toArray=true) (hW:Below W.heap.size W w)
  (h:wpQuiet P l.toArray (Calm W) (fun a'=>∀ w',Calm W w'→Q .normal a' w') l a):(Code.region id l.toArray true).wp P Q a w :=
 wp_region_quiet (C:=Calm W) hm hB (show Below W.heap.size W _ from ⟨hW.os,hW.tape,hW.output,hW.size,hW.block⟩) (by simpa using h)
theorem calm_val {P:Program} {W:World} {o:Oper} {a:Act} {K:Act→Prop} {v:Value} (h:∀ w',Calm W w'→(execOp a.eval o).run P w'=.ok (.value v) w')(hk:K (a.put o.dst v)):o.quiet P a (Calm W) K:=by
 refine⟨v,fun w' hw'=>?_,hk⟩
 unfold Oper.quietAt
 rw [h w' hw']
 exact⟨rfl,rfl⟩
theorem calm_enter {P:Program} {W:World} {o:Oper} {a:Act} {K:Act→Prop} {v:Value} {f:FuncId} {args:Array Value} (h:∀ w',Calm W w'→(execOp a.eval o).run P w'=.ok (.enter f args) w')(hc:∀ w',Calm W w'→Calls P f args w' (Ret v w'))(hk:K (a.put o.dst v)) :
  o.quiet P a (Calm W) K:=by
 refine⟨v,fun w' hw'=>?_,hk⟩
 unfold Oper.quietAt
 rw [h w' hw']
 exact⟨rfl,(hc w' hw').mono fun e w''⟨he,hb⟩=>⟨he,show Below W.heap.size W w'' from Below.trans hw' (hb.mono (Below.size hw'))⟩⟩
theorem calm_cell {W w':World} (h:Calm W w'):(∀ b o,b<W.heap.size→w'.cell? ⟨b,o,none⟩=W.cell? ⟨b,o,none⟩)∧(∀ p:Addr,p.block<W.heap.size→w'.cell? p=W.cell? p) :=
 ⟨fun b o h'=>Below.cell (p:=⟨b,o,none⟩) h h',fun p h'=>Below.cell (p:=p) h h'⟩
end
section
open Go.RowKit
def tame:Op→Bool
 | .move _=>true
 | .assign _=>true
 | .alloc _=>true
 | .box _ _=>true
 | .load _ _=>true
 | .store _ _ _=>true
 | .fieldAddr _ _ _=>true
 | .field _ _ _=>true
 | .indexAddr _ _ _=>true
 | .index _ _ _=>true
 | _=>false
structure Laid (ops A:Array Oper)(π ρ:Nat→Nat)(i j:Nat):Prop where
 sz:A.size=ops.size
 lt:∀ p,p<ops.size→π p<ops.size
 inv:∀ p,p<ops.size→ρ (π p)=p
 ltr:∀ q,q<ops.size→ρ q<ops.size
 inr:∀ q,q<ops.size→π (ρ q)=q
 hi:i<ops.size
 hj:j<ops.size
 op:∀ (p:Nat)(o:Oper),ops[p]?=some o→∃ X:Array Edge,A[π p]?=some { o with after:=X }∧(∀ e∈X,Region.binds .any e=true→(∃ e'∈o.after,Region.binds .any e'=true∧e.on=π e'.on)∨(p=j∧e.on=π i)) ∧
  (∀ e'∈o.after,Region.binds .any e'=true→∃ e∈X,Region.binds .any e=true∧e.on=π e'.on)
 tm:∀ (p:Nat)(o:Oper),ops[p]?=some o→tame o.op=true∧o.guard=none∧∀ e∈o.after,e.on<ops.size
structure Agr (n:Nat)(π:Nat→Nat)(L LA:Array Bool):Prop where
 s1:L.size=n
 s2:LA.size=n
 at_:∀ p,p<n→LA.getD (π p) false=L.getD p false
end
section
open Go.RowKit
section
variable {P:Program} {C:Cx} {σ σ':St} {G G':Gh} {a:Act} {w w':World} {ops:Array Oper} {Q:Exit→St→Prop}
def DoesS (P:Program) (C:Cx) (ops:Array Oper) (o:Oper) (σ:St) (av:AV) (M':List (Nat×AO)) (nk':Nat):Prop :=
 o.guard=none∧∀ t,(∀ q∈o.looksAt ops,look q t=look q σ.t)→WO P C o ⟨t,σ.M,σ.nk⟩ ⟨ent1 o.dst true av++t,M',nk'⟩
inductive DS (P:Program) (C:Cx) (ops:Array Oper) (mem:List Bool) (Mc:List (Nat×AO)) (nk0:Nat):Nat→List Oper→St→St→Prop
 | nil (k:Nat) (σ:St):DS P C ops mem Mc nk0 k [] σ σ
 | val (k:Nat) (o:Oper) (rest:List Oper) (d:Tmp) (av:AV) (nk:Nat) (σ σ':St):mem.getD k false=false→o.dst=some d→Nat.blt d C.N=true→(nk=nk0∨(nk=σ.nk∧behindB ops mem k=true))→DoesV P C ops o σ.t Mc nk av →
   DS P C ops mem Mc nk0 (k+1) rest (σ.put d av) σ'→DS P C ops mem Mc nk0 k (o::rest) σ σ'
 | mem (k:Nat) (o:Oper) (rest:List Oper) (av:AV) (M':List (Nat×AO)) (nk':Nat) (σ σ':St):mem.getD k false=true→Nat.ble σ.nk nk'=true→msSub Mc M'→DoesS P C ops o σ av M' nk' →
   DS P C ops mem Mc nk0 (k+1) rest ⟨ent1 o.dst true av++σ.t,M',nk'⟩ σ'→DS P C ops mem Mc nk0 k (o::rest) σ σ'
end
end
section
open Go.RowKit
section
variable {B:World→View→Prop} {gl:Nat} {P:Program} {C:Cx} {σ:St} {o:Oper} {d:Tmp} {ops:Array Oper} {rest:List Oper} {Q:Exit→St→Prop} {mem:List Bool} {Mc:List (Nat×AO)} {nk0 k:Nat}
def nlqV (P:Program)(σ:St):Op→Option (List (List AV))
 | .binOp .eql T x y _ =>
  match P.underlying T,σ.ev x,σ.ev y with
  | some (.slice _),some (.ls _ rows),some (.sc (.slice none _ _))=>some rows
  | _,_,_=>none
 | _=>none
theorem WL.nlq {rows:List (List AV)} (hd:dstB C.N o=some d) (h:nlqV P σ o.op=some rows) (hk:∀ b:Bool,(b=true→rows=[])→WL P C ops rest (σ.put d (.sc (.bool b))) Q):WL P C ops (o::rest) σ Q:=by
 intro G a w ok
 unfold nlqV at h
 split at h
 ·rename_i T x y Ty ho
  split at h
  ·rename_i e n rows' m c hT hx hy
   cases h
   obtain ⟨A,cap,ad,u,e1,h1,h2,h3,h4,h5⟩:=(ok.evr hx).2.pu_of.ls_of
   have ey:=ok.evs hy
   obtain ⟨q1,q2,q3⟩:=dstB_of hd
   refine wpList_plain q1 fun K hK=>?_
   unfold Oper.wp execOp
   have hrun:=Lib.run_eql_slice_nil (P:=P) w T e A rows.length cap m c hT
   simp only [ho,e1,ey,eqGuard,Sem.run_bind,Sem.run_pure,Result.andThen_ok,hrun]
   simp only [Bool.not_true,Bool.false_eq_true,if_false,Sem.run_bind,Sem.run_pure,Result.andThen_ok,hrun,Oper.upon]
   refine hK _ _ (hk A.isNone (fun hn=>?_) G _ w ?_)
   ·cases A with
    | some z=>cases hn
    | none =>
     rcases Nat.eq_zero_or_pos rows.length with h0|h0
     ·exact List.eq_nil_of_length_eq_zero h0
     ·exact absurd (h2 h0) (by simp)
   ·rw [q2]
    exact ok.set (d:=some d) (.pu _ _ (.sc _)) (.sc _) fun x hx=>by cases hx;exact of_blt q3
  ·cases h
 ·cases h
theorem Tr.nilC (k j n:Nat) {T:TypeId} {cells cells':List AV} (hk:look k σ.M=some (.box T cells)) (hj:cells[j]?=some (.sc (.slice none 0 0))) (he:cells.set j (.ls n [])=cells'):Tr C σ (σ.upd k (.box T cells')):=fun G a w ok=>by
 subst he
 obtain ⟨g1,g2,g3,cs,Φ,g4,g5,g6,g7,g8⟩:=ok.ob k _ hk
 have hjl:=(List.getElem?_eq_some_iff.1 hj).1
 refine ⟨G,ok.reob hk ⟨g1,fun i av hx=>?_,g3,cs,Φ,g4,by simpa using g5,g6,g7,fun i av u hx hu=>?_⟩⟩
 ·by_cases e:j=i
  ·subst e
   rw [List.getElem?_set_self hjl] at hx
   cases hx;exact .ls _ _
  ·rw [List.getElem?_set_ne e] at hx;exact g2 i av hx
 ·by_cases e:j=i
  ·subst e
   rw [List.getElem?_set_self hjl] at hx
   cases hx
   have:=(g8 j _ u hj hu).r rfl
   rw [this.sc_eq]
   exact .inl (.pu _ _ (.ls n [] none 0 ⟨0,0,none⟩ (fun _ _=>undef) (by simp) (by simp) (by simp) (by simp) (by simp)))
  ·rw [List.getElem?_set_ne e] at hx;exact g8 i av u hx hu
end
end
section
open Go.RowKit
section
variable {P:Program} {C:Cx} {σ:St} {o:Oper} {d:Tmp} {ops:Array Oper} {rest:List Oper} {Q:Exit→St→Prop} {mem:List Bool} {Mc:List (Nat×AO)} {nk0 k:Nat}
theorem put_row {T n i j:Nat} {rows:List (List AV)} {r l:List AV} (hr:rows[i]?=some r) (hj:j+l.length≤r.length) (hp:l.all AV.pu0=true):(AO.row T n rows).put i j l=some (.row T n (rows.set i (putL j l r))):=by
 simp only [AO.put,hr]
 rw [if_pos ⟨hj,hp⟩]
end
end
section
open Go.RowKit
section
variable {B:World→View→Prop} {gl:Nat} {P:Program} {C:Cx} {ops:Array Oper} {rest:List Oper} {σ:St} {o:Oper} {d:Tmp} {Q:Exit→St→Prop}
def ineV (P:Program)(σ:St):Op→Option Bool
 | .binOp .neq T x (.const .nilIface) _ =>
  match P.underlying T,σ.ev x with
  | some (.interface _),some (.sc .nilIface)=>some false
  | some (.interface _),some (.sc (.iface _ _))=>some true
  | _,_=>none
 | _=>none
def sb8V (σ:St):Op→Option (Int×Int)
 | .binOp .sub _ x y _ =>
  match σ.ev x,σ.ev y with
  | some (.sc (.int .u8 m)),some (.sc (.int .u8 n))=>some (m,n)
  | _,_=>none
 | _=>none
theorem sb8V_of {m n:Int} (h:sb8V σ o.op=some (m,n))(hb:0≤m-n∧m-n≤255):WV P C o σ (.sc (.int .u8 (m-n))):=by
 unfold sb8V at h
 split at h
 ·rename_i T x y Ty ho
  split at h
  ·rename_i m n hx hy
   cases h
   have e:IntKind.u8.wrap (m-n)=m-n:=by
    have e:(m-n) % 256=m-n:=Int.emod_eq_of_lt hb.1 zqo
    simp [IntKind.wrap,IntKind.bits,IntKind.signed,e]
   exact WV.sc fun G a w ok=>by unfold execOp;simp [ho,ok.evs hx,ok.evs hy,eqGuard,binOp,Op.intArith,e]
  ·cases h
 ·cases h
theorem WL.sb8 {m n:Int} (hd:dstB C.N o=some d)(h:sb8V σ o.op=some (m,n))(hb:0≤m-n∧m-n≤255)(k:WL P C ops rest (σ.put d (.sc (.int .u8 (m-n)))) Q):WL P C ops (o::rest) σ Q:=WL.vl hd (sb8V_of h hb) k
end
end
section
open Go.RowKit
def nr_rvK {α:Type} (l:List α)(k:Nat):List α:=l.mapIdx fun i x=>if i<k∨l.length≤i+k then(l.reverse[i]?).getD x else x
section
variable {α:Type} {l:List α} {k:Nat}
theorem nr_rvK_len:(nr_rvK l k).length=l.length:=List.length_mapIdx
theorem nr_rvK_0 (l:List α):nr_rvK l 0=l:=by
 apply List.ext_getElem nr_rvK_len
 intro i h1 h2
 simp only [nr_rvK,List.getElem_mapIdx]
 rw [if_neg (by omega)]
theorem nr_rvK_end (h:l.length≤2*k+1):nr_rvK l k=l.reverse:=by
 apply List.ext_getElem (by rw [nr_rvK_len,List.length_reverse])
 intro i h1 h2
 have hi:i<l.length:=by rw [nr_rvK_len]at h1;exact h1
 simp only [nr_rvK,List.getElem_mapIdx]
 by_cases e:i<k∨l.length≤i+k
 ·rw [if_pos e,List.getElem?_eq_getElem (by rw [List.length_reverse];exact hi)];rfl
 ·rw [if_neg e,List.getElem_reverse]
  congr 1;omega
theorem nr_rvK_lo (h:2*k+1<l.length):(nr_rvK l k)[k]?=some (l[k]'(by omega)):=by
 rw [List.getElem?_eq_getElem (by rw [nr_rvK_len];omega)]
 simp only [nr_rvK,List.getElem_mapIdx]
 rw [if_neg (by omega)]
theorem nr_rvK_hi (h:2*k+1<l.length):(nr_rvK l k)[l.length-1-k]?=some (l[l.length-1-k]'(by omega)):=by
 rw [List.getElem?_eq_getElem (by rw [nr_rvK_len];omega)]
 simp only [nr_rvK,List.getElem_mapIdx]
 rw [if_neg (by omega)]
theorem nr_rvK_s (h:2*k+1<l.length):((nr_rvK l k).set k (l[l.length-1-k]'(by omega))).set (l.length-1-k) (l[k]'(by omega))=nr_rvK l (k+1):=by
 apply List.ext_getElem (by rw [List.length_set,List.length_set,nr_rvK_len,nr_rvK_len])
 intro i h1 h2
 have hi:i<l.length:=by rw [nr_rvK_len]at h2;exact h2
 rw [List.getElem_set,List.getElem_set]
 simp only [nr_rvK,List.getElem_mapIdx]
 have hr:∀ x,(l.reverse[i]?).getD x=l[l.length-1-i]' zqo:=fun x=>by
  rw [List.getElem?_eq_getElem (by rw [List.length_reverse];exact hi),List.getElem_reverse];rfl
 rw [hr]
 by_cases e1:l.length-1-k=i
 ·rw [if_pos e1,if_pos (by omega)]
  congr 1;omega
 ·rw [if_neg e1]
  by_cases e2:k=i
  ·rw [if_pos e2,if_pos (by omega)]
   congr 1;omega
  ·rw [if_neg e2]
   by_cases e3:i<k∨l.length≤i+k
   ·rw [if_pos e3,if_pos (by omega)]
   ·rw [if_neg e3,if_neg (by omega)]
end
end
end Go.Proofs.YthehkchjdkdbiaaGreatDoor
