/- A walk that knows values as trees: whether a function value is nil. -/
import Derived.Test.YthohlofpphjofaaGreatDoorFZGq
set_option maxHeartbeats 4000000
set_option maxRecDepth 100000
set_option linter.unusedVariables false
set_option linter.unusedSimpArgs false
namespace Go.Proofs.YthohlofpphjofaaGreatDoor
theorem ai6 {p:Prop}(h:p:=by
 unfold execOp
 simp only [ho,e1,e2,eqGuard,Sem.run_bind,Sem.run_pure,Result.andThen_ok,hrun]
 simp only [Bool.not_true,EI,if_false,Sem.run_bind,Sem.run_pure,Result.andThen_ok,hrun]):p:=h
section
open Go.RowKit
def xZ (p:aN):Bool:=QB p|| decide (60<p.evs.length)
theorem agE (p:aN):Ctr Tryz.prog 70 [eF p] (.sc (.bool (xZ p))):=by
 refine jc Tryz.func70 Tryz.ntmps70 fun w0 F0=>?_;dsimp only [St.init,number,Nat.reduceAdd]
 refine AX ?_
 refine WL.vl rfl (WV.call rfl (callF Tryz.func17 rfl rfl) rfl rfl (ajp p)) ?_
 refine AX ?_
 refine WL.partG rfl rfl rfl rfl (fun hp=>?_) (fun hp=>?_)
 ·refine AX ?_
  exact W.ret (fin1 rfl rfl (o9 (by unfold xZ;rw [hp];rfl)) rfl)
 ·refine AX ?_
  refine W.ret (fin1 rfl rfl (o9 ?_) rfl)
  unfold xZ
  rw [hp,E5]
  show decide _=decide _
  rw [decide_eq_decide];omega
theorem abT {p:aN} (h:xZ p=false):fH p:=Px (p:=p) (by unfold xZ at h;simp only [AB]at h;exact h.1)
def pch(v:Value):List PanicEntry:=[{ v:=v,recovered:=false }]
def Ctp (B:World→View→Prop)(g:Nat)(P:Program)(f:FuncId)(args:List AV)(M:List (Nat×AO))(nk:Nat)(pv:Value):Prop :=
 ∀ (w:World)(G:Gh)(vs:List Value),B w G.F→(∀ x,fpM G M x→g≤x)→Obs G w M nk→vs.length=args.length→(∀ (i:Nat) av u,args[i]?=some av→vs[i]?=some u→R G av u) →
  Calls P f vs.toArray w fun e w'=>e=.panicked (pch pv)∧Kept (fpM G M) w w'∧∀ p u,G.F p=some u→w'.cell? p=some u
theorem Ctp.intro {B:World→View→Prop} {g:Nat} (hS:Stab B g) {P:Program} {f:FuncId} {fn:Func} {c:Code} {args:List AV} {M:List (Nat×AO)} {nk:Nat} {pv:Value} (hf:P.funcs[f]?=some fn) (hb:fn.body=some c) {N:Nat} (hN:fn.ntmps=N) (hn:args.length≤N)
  (hp:args.all (AV.inn nk)=true)
  (h:∀ w0 F0 fp pg,Holds B g ⟨w0,F0,N,fp,nk,pg,[]⟩→W P ⟨w0,F0,N,fp,nk,pg,[]⟩ c ⟨number 0 args,M,nk⟩ (fun e _=>e=.panic (pch pv))):Ctp B g P f args M nk pv:=by
 intro w G vs hB hlo hO hl hR
 subst hN
 refine calls_of_wp hf hb ?_
 have hH:Holds B g ⟨w,G.F,fn.ntmps,fpM G M,nk,G,[]⟩:=⟨fun w2 F2 k1 k2=>hS.2 w w2 G.F F2 (fun i hi=>k1.block i (jr hi (hS.1 w G.F hB)) fun h=>by have:=hlo i h;omega) k2 hB,fun x hx=>hx.elim (fun h=>iD (hS.1 w G.F hB) h) (hlo x)⟩
 have h1:=h w G.F (fpM G M) G hH G { tmps:=vs.toArray++Array.replicate (fn.ntmps - vs.toArray.size) undef,defers:=[] } w
  ⟨by simp;omega,⟨rfl,Nat.le_refl _,fun k _=>⟨rfl,rfl,rfl⟩⟩,fun i av hx=>by
   obtain ⟨_,h2⟩:=look_number args 0 i av hx
   simp only [EW] at h2
   have hi:i < args.length:=(List.getElem?_eq_some_iff.1 h2).1
   have hv:i < vs.length:=by omega
   refine ⟨by show i < fn.ntmps;omega,inn_bd (List.all_eq_true.1 hp av (aY h2)),hR i av _ h2 ?_⟩
   simp [bV,yL,hv],
   Kept.refl _ _,hO.fw,fun _ _ h=>h,fun _ _ h=>.inl h,hO.ob,(fun k o x h1 h2=>⟨.inr ⟨k,o,h1,h2⟩,hO.my k o x h1 h2⟩),hO.dj,hO.dF⟩
 refine wp_mono h1 fun e a w' ⟨σ,G1,he,ok⟩=>?_
 subst he
 exact ⟨ok.df.1,rfl,ok.bel,fun p u x=>ok.fw p u (ok.f0 p u x)⟩
section
variable {B:World→View→Prop} {gl:Nat} {P:Program} {C:Cx} {σ:St} {G:Gh} {a:Act} {w:World} {o:Oper} {ops:Array Oper} {rest:List Oper} {Q:Exit→St→Prop} {d:Tmp}
theorem WL.stop (hg:o.guard=none)(h:∀ G a w,Ok C σ G a w→∀ N,o.wp P a w N (Post C Q)):WL P C ops (o::rest) σ Q:=fun G a w ok=>wpList_plain hg fun K hK=>h G a w ok K
theorem WL.pan {x:Operand} {t:TypeId} {v:Value} (hg:o.guard=none)(ho:o.op=.panic x)(hx:σ.ev x=some (.sc (.iface t v)))(k:Q (.panic (pch (.iface t v))) σ):WL P C ops (o::rest) σ Q :=
 WL.stop hg fun G a w ok N=>by
  have e:=ok.evs hx
  refine fU ?_
  simp only [ho,e,Sem.run_bind,run_panic_iface,Oper.upon]
  exact⟨σ,G,k,ok⟩
theorem WV.mki {x:Operand} {T:TypeId} {l:List AV} {ys:List Value} (ho:o.op=.makeInterface T x) (hi:∀ v w,(Instr.makeInterface T v).run P w=.ok (.iface T v) w) (hx:σ.ev x=some (.ag l)) (hs:scs l=some ys):WV P C o σ (.sc (.iface T (.agg ys.toArray))) :=
 WV.val (fun _ _ _ _=>.sc _) fun G a w ok=>by
  have r:=(ok.evr hx).2
  obtain ⟨cs,e,h1,h2⟩:∃ cs:Array Value,a.eval x=.agg cs∧cs.size=l.length∧∀ (i:Nat) av u,l[i]?=some av→cs[i]?=some u→R G av u:=R.ag_of r
  have ey:=scs_of hs (cs:=cs.toList) pz fun i av u p q=>h2 i av u p pF
  refine ⟨.iface T (.agg ys.toArray),?_,.pu _ _ (.sc _)⟩
  unfold execOp
  simp only [ho,e,Sem.run_bind,hi]
  rw [← ey]
  rfl
theorem call_wpp {f:FuncId} {o:Oper} {y:Operand} {xs:Array Operand} {ts:Array TypeId} {cs:Array Value} {R':Ending→World→Prop} {N:Act→World→Prop} {Q':Exit→Act→World→Prop} (ho:o.op=.call { callee:=.value y,args:=xs,argTypes:=ts })(hc:∀ vs w,(callFunc f vs).run P w=.ok (.enter f vs) w)
  (ey:a.eval y=.func (.func f) #[] cs)(h:Calls P f (xs.toList.map a.eval++cs.toList).toArray w R')(hN:∀ e w1,R' e w1→∃ c,e=.panicked c∧Q' (.panic c) a w1):o.wp P a w N Q':=by
 refine fU ?_
 have e3:(#[]++xs.map a.eval++cs:Array Value)=(xs.toList.map a.eval++cs.toList).toArray:=by apply uI;simp
 simp only [ho,resolve,ey,Deferred.ofValue,invoke,Sem.run_bind,Sem.run_pure,Result.andThen_ok,hc,Oper.upon,e3]
 refine h.mono fun e w1 hr=>?_
 obtain⟨c,rfl,hn⟩:=hN e w1 hr
 exact hn
theorem Ok.ctpC (ok:Ok C σ G a w) (hB:Holds B gl C) {f:FuncId} {args args':List AV} {M:List (Nat×AO)} {nk:Nat} {pv:Value} (ks:List Nat) {vs:List Value} (hl:vs.length=args'.length) (hR:∀ (i:Nat) av u,args'[i]?=some av→vs[i]?=some u→R G av u)
  (h:Ctp B gl P f args M nk pv) (hks:ksB ks nk σ.nk=true) (ha:args.map (AV.ren (rhoC ks nk σ.nk))=args') (hp:args.all (AV.inn nk)=true) (hM:TrM σ (rhoC ks nk σ.nk) nk M) :
  Calls P f vs.toArray w fun e w1=>∃ G'',e=.panicked (pch pv)∧Ok C ⟨σ.t,remL ks σ.M,σ.nk⟩ G'' a w1:=by
 have hks2:=hks
 simp only [ksB,dw] at hks2
 obtain ⟨⟨⟨hk1,_⟩,hk3⟩,hk4⟩:=hks2
 have hlen:=dQ hk1
 have hnod:=nod_of hk3
 have rlo:∀ i,i<nk→rhoC ks nk σ.nk i=ks.getD i 0:=fun i hi=>by
  exact afp
 have hat:∀ i,i<nk→ks[i]?=some (ks.getD i 0):=fun i hi=>by
  exact afx
 have hMat:∀ k o,look k M=some o→look (ks.getD k 0) σ.M=some (o.ren (rhoC ks nk σ.nk))∧o.inn nk=true∧k<nk:=fun k o h=>by
  exact adZ
 have hMk:∀ x,fpM (G.ren (rhoC ks nk σ.nk)) M x→∃ k o,k<nk∧look (ks.getD k 0) σ.M=some o∧G.fp (ks.getD k 0) x:=fun x ⟨k,o,h1,h2⟩=>by
  exact adr
 have hO:Obs (G.ren (rhoC ks nk σ.nk)) w M nk:=by
  exact aiK
 have hcalls:=h w (G.ren (rhoC ks nk σ.nk)) vs (hB.1 w G.F ok.bel ok.f0) (fun x hx=>by
   obtain ⟨k,o,_,h1,h2⟩:=hMk x hx
   exact hB.2 x (ok.my _ o x h1 h2).1) hO (by rw [hl,← ha];simp) fun i av u p q=>by
  have:args'[i]?=some (av.ren (rhoC ks nk σ.nk)):=by rw [← ha,bC,p];rfl
  exact R.ren_ (List.all_eq_true.1 hp av (aY p)) (hR i _ u this q)
 refine hcalls.mono fun e w1 ⟨he,q1,q2⟩=>?_
 obtain ⟨G'',ok',_⟩:=ok.cto (M:=M) (M':=[]) (nk':=nk) (G':=G.ren (rhoC ks nk σ.nk)) hks (fun k o h=>⟨(hMat k o h).2.2,_,(hMat k o h).1⟩) hMk q1 (fun _ _ h=>h) (fun p u x=>.inl x)
  ⟨q2,(fun k o h=>by cases h),(fun k o x h=>by cases h),(fun k o k' o' x h=>by cases h),(fun k o x p u h=>by cases h)⟩ (fun k o x h=>by cases h) (fun k _=>⟨rfl,rfl,rfl⟩) (Nat.le_refl _) rfl rfl
 refine ⟨G'',he,?_⟩
 have e0:σ.nk+(nk-nk)=σ.nk:=by omega
 rw [e0] at ok'
 exact ok'
theorem WL.ctp (hB:Holds B gl C) {f:FuncId} {args args':List AV} {M:List (Nat×AO)} {nk:Nat} {pv:Value} {t:List (Nat×AV)} {M0:List (Nat×AO)} {n0:Nat} (ks:List Nat) (hg:o.guard=none) (he:calE ⟨t,M0,n0⟩ o.op=some (f,args')) (hc:∀ vs w,(callFunc f vs).run P w=.ok (.enter f vs) w)
  (h:Ctp B gl P f args M nk pv) (hks:ksB ks nk n0=true) (ha:args.map (AV.ren (rhoC ks nk n0))=args') (hp:args.all (AV.inn nk)=true) (hM:TrM ⟨t,M0,n0⟩ (rhoC ks nk n0) nk M)
  (k:Q (.panic (pch pv)) ⟨t,remL ks M0,n0⟩):WL P C ops (o::rest) ⟨t,M0,n0⟩ Q:=by
 unfold calE at he
 split at he
 ·rename_i y xs ts ho
  split at he
  ·rename_i fv args0 hy hx
   split at he
   ·rename_i f' caps hf
    cases he
    refine WL.stop hg fun G a w ok N=>?_
    obtain ⟨cs,ey,h1,h2⟩:=fnOf_of hf (ok.evr hy).2
    obtain ⟨hl,hR⟩:=ok.evl2 (xs:=⟨xs⟩) hx h1 h2 rfl
    exact call_wpp ho hc ey (ok.ctpC hB ks hl hR h hks ha hp hM) fun e w1 ⟨G'',he,ok'⟩=>⟨_,he,_,G'',k,ok'⟩
   ·cases he
  ·cases he
 ·cases he
end
inductive UR where
 | ok (res:AV)(M':List (Nat×AO))(nk':Nat)
 | er (pv:Value)
def Ctu (B:World→View→Prop)(g:Nat)(P:Program)(f:FuncId)(args:List AV)(M:List (Nat×AO))(nk:Nat):UR→Prop
 | .ok res M' nk'=>Cto B g P f args M nk res M' nk'
 | .er pv=>Ctp B g P f args M nk pv
def QFinU (P:Program)(fn:Func)(C:Cx):UR→Exit→St→Prop
 | .ok res M' nk'=>QFinM P fn C res M' nk'
 | .er pv=>fun e _=>e=.panic (pch pv)
theorem Ctu.intro {B:World→View→Prop} {g:Nat} (hS:Stab B g) {P:Program} {f:FuncId} {fn:Func} {c:Code} {args:List AV} {M:List (Nat×AO)} {nk:Nat} {r:UR} (hf:P.funcs[f]?=some fn) (hb:fn.body=some c) {N:Nat} (hN:fn.ntmps=N) (hn:args.length≤N)
  (hp:args.all (AV.inn nk)=true)
  (h:∀ w0 F0 fp pg,Holds B g ⟨w0,F0,N,fp,nk,pg,[]⟩→W P ⟨w0,F0,N,fp,nk,pg,[]⟩ c ⟨number 0 args,M,nk⟩ (QFinU P fn ⟨w0,F0,N,fp,nk,pg,[]⟩ r)):Ctu B g P f args M nk r:=by
 cases r with
 | ok res M' nk'=>exact Cto.intro hS hf hb hN hn hp h
 | er pv=>exact Ctp.intro hS hf hb hN hn hp h
theorem Ctu.ok_ {B:World→View→Prop} {g:Nat} {P:Program} {f:FuncId} {args:List AV} {M:List (Nat×AO)} {nk:Nat} {r:UR} {res:AV} {M':List (Nat×AO)} {nk':Nat} (h:Ctu B g P f args M nk r)(e:r=.ok res M' nk'):Cto B g P f args M nk res M' nk':=by subst e;exact h
theorem Ctu.er_ {B:World→View→Prop} {g:Nat} {P:Program} {f:FuncId} {args:List AV} {M:List (Nat×AO)} {nk:Nat} {r:UR} {pv:Value} (h:Ctu B g P f args M nk r)(e:r=.er pv):Ctp B g P f args M nk pv:=by subst e;exact h
section
variable {P:Program} {C:Cx} {σ:St} {ops:Array Oper} {l:List Oper} {Q Q' Q1 Q2 Q3:Exit→St→Prop}
theorem QBlock.mono {id:Nat} (h:∀ e s,Q e s→Q' e s):∀ e s,QBlock id Q e s→QBlock id Q' e s:=fun e s q=>by
 cases e with
 | exit id' =>
  show if id'=id then Q' .normal s else Q' (.exit id') s
  have q:if id'=id then Q .normal s else Q (.exit id') s:=q
  grind
 | _=>exact h _ _ q
theorem QThen.mono {N N':St→Prop} (hN:∀ s,N s→N' s)(h:∀ e s,Q e s→Q' e s):∀ e s,QThen N Q e s→QThen N' Q' e s:=fun e s q=>by
 cases e with
 | normal=>exact hN s q
 | _=>exact h _ _ q
theorem WL.mono (h:WL P C ops l σ Q)(hq:∀ e s,Q e s→Q' e s):WL P C ops l σ Q':=fun G a w ok=>wpList_mono' (h G a w ok) fun e a w⟨s,g,q,o⟩=>⟨s,g,hq e s q,o⟩
theorem WL.aa0 {id:Nat} {x y:Code} (σm:St)(h:WL P C ops l σ (QThen (fun s=>W P C x s (QBlock id (QThen (fun s=>Tr C s σm) Q))) Q1))(k:W P C y σm Q2) :
  WL P C ops l σ (QThen (fun s=>W P C x s (QBlock id (QThen (fun s=>W P C y s Q2) Q))) Q1) :=
 WL.mono h (QThen.mono (fun s q=>W.mono q (QBlock.mono (QThen.mono (fun s q=>W.tr q k) fun _ _ q=>q))) fun _ _ q=>q)
theorem W.aa0 {id:Nat} {x y:Code} (σm:St)(h:W P C x σ (QBlock id (QThen (fun s=>Tr C s σm) Q)))(k:W P C y σm Q2):W P C x σ (QBlock id (QThen (fun s=>W P C y s Q2) Q)) :=
 W.mono h (QBlock.mono (QThen.mono (fun s q=>W.tr q k) fun _ _ q=>q))
theorem QFinM.sub {fn:Func} {res:AV} {M' M'':List (Nat×AO)} {nk':Nat} {e:Exit} (h:QFinM P fn C res M' nk' e σ) (hs:msSub M'' M'):QFinM P fn C res M'' nk' e σ :=
 ⟨h.1,fun G a w ok=>by
  obtain ⟨v,G',e1,ok',b,r⟩:=h.2 G a w ok
  have g:=msSub_at hs
  exact ⟨v,G',e1,⟨ok'.sz,ok'.df,ok'.tm,ok'.bel,ok'.fw,ok'.f0,ok'.f1,fun k o x=>ok'.ob k o (g k o x),fun k o x h1 h2=>ok'.my k o x (g k o h1) h2,fun k o k' o' x h1 h2=>ok'.dj k o k' o' x (g k o h1) (g k' o' h2),fun k o x p u h1=>ok'.dF k o x p u (g k o h1)⟩,b,r⟩⟩
theorem ahM {fn:Func} {avs:List AV} {res:AV} {M':List (Nat×AO)} {nk':Nat} (h:resL P σ fn.results.toList=some avs)(hp:avs.all (fun av=>!ownB av)=true)(e:resT avs=res)(hs:msSub M' σ.M)(hk:σ.nk=nk'):QFinM P fn C res M' nk' .ret σ :=
 QFinM.sub (finM h hp e rfl hk) hs
end
theorem run_equalIn_fn {P:Program} (w:World)(d:Nat)(t:TypeId) {a b c} (f:Fn)(fs cs:Array Value)(h:P.underlying t=some (.func a b c)):(Op.equalIn (d+1) t (.func f fs cs) .nilFunc).run P w=.ok false w:=by
 simp [Op.equalIn,run_underlying h]
theorem run_equalIn_nn {P:Program} (w:World)(d:Nat)(t:TypeId) {a b c} (h:P.underlying t=some (.func a b c)):(Op.equalIn (d+1) t .nilFunc .nilFunc).run P w=.ok true w:=by
 simp [Op.equalIn,run_underlying h]
theorem run_neq_fn {P:Program} (w:World)(t:TypeId) {a b c} (f:Fn)(fs cs:Array Value)(h:P.underlying t=some (.func a b c)):(binOp .neq t (.func f fs cs) .nilFunc).run P w=.ok (.bool true) w:=by
 simp only [binOp]
 simp [Op.equal,Op.maxDepth,run_equalIn_fn w 9999 t f fs cs h]
theorem run_neq_nn {P:Program} (w:World)(t:TypeId) {a b c} (h:P.underlying t=some (.func a b c)):(binOp .neq t .nilFunc .nilFunc).run P w=.ok (.bool false) w:=by
 simp only [binOp]
 simp [Op.equal,Op.maxDepth,run_equalIn_nn w 9999 t h]
section
variable {P:Program} {C:Cx} {σ:St} {o:Oper}
def fnqV (P:Program)(σ:St):Op→Option Bool
 | .binOp .neq T x y _ =>
  match P.underlying T,σ.ev x,σ.ev y with
  | some (.func _ _ _),some (.fn _ _),some (.sc .nilFunc)=>some true
  | some (.func _ _ _),some (.sc .nilFunc),some (.sc .nilFunc)=>some false
  | _,_,_=>none
 | _=>none
theorem fnqV_of {b:Bool} (h:fnqV P σ o.op=some b):WV P C o σ (.sc (.bool b)):=by
 unfold fnqV at h
 split at h
 ·rename_i T x y Ty ho
  split at h
  ·rename_i a1 a2 a3 f caps hT hx hy
   cases h
   refine WV.val (fun G a w ok=>.sc _) fun G a w ok=>?_
   obtain⟨cs,e1,_,_⟩:=(ok.evr hx).2.fn_of
   obtain⟨g1,x1,y1,e3⟩:=fnV_or f cs
   rw [e3] at e1
   have e2:=ok.evs hy
   have hrun:=run_neq_fn (P:=P) w T g1 x1 y1 hT
   refine⟨.bool true,?_,.pu _ _ (.sc _)⟩
   exact ai6
  ·rename_i a1 a2 a3 hT hx hy
   cases h
   refine WV.val (fun G a w ok=>.sc _) fun G a w ok=>?_
   have e1:=ok.evs hx
   have e2:=ok.evs hy
   have hrun:=run_neq_nn (P:=P) w T hT
   refine⟨.bool false,?_,.pu _ _ (.sc _)⟩
   exact ai6
  ·cases h
 ·cases h
end
end
end Go.Proofs.YthohlofpphjofaaGreatDoor
