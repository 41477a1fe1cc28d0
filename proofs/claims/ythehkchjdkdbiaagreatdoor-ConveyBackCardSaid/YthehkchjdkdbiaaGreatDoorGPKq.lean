/- A walk that knows values as trees: panics. -/
import Derived.Test.YthehkchjdkdbiaaGreatDoorLkEKq
import Derived.Test.YthehkchjdkdbiaaGreatDoorPChKq
import Derived.Test.YthehkchjdkdbiaaGreatDoorYQKq
set_option maxHeartbeats 4000000
set_option maxRecDepth 100000
set_option linter.unusedVariables false
set_option linter.unusedSimpArgs false
namespace Go.Proofs.YthehkchjdkdbiaaGreatDoor
theorem alT {p:Prop}(h:p:=by
 refine vO ?_
 refine W.tr (Tr.ahs (t:=4) 3 rfl) ?_
 exact qM):p:=h
theorem ak2 {p:Prop}(h:p:=by
 unfold iT
 split
 ·exact Fg s hO _ (bJ _)
 ·simp):p:=h
section
open Go.RowKit
theorem Tr.ahs {C:Cx} {σ:St} {t:Tmp} (n:Nat) (h:look t σ.t=some (.sc (.slice none 0 0))):Tr C σ (σ.put t (.ls n [])):=fun G a w ok=>by
 refine ⟨G,ok.sz,ok.df,fun i av hi=>?_,ok.bel,ok.fw,ok.f0,ok.f1,ok.ob,ok.my,ok.dj,ok.dF⟩
 by_cases e:i=t
 ·subst e
  rw [show look i (σ.put i (.ls n [])).t=some (.ls n []) from aA] at hi
  cases hi
  obtain ⟨h1,h2,h3⟩:=ok.tm i _ h
  refine ⟨h1,.ls _ _,?_⟩
  rw [h3.fB]
  exact .pu _ _ (.ls n [] none 0 ⟨0,0,none⟩ (fun _ _=>undef) (by simp) (by simp) (fun h=>absurd h (by simp)) (fun i r j av h=>by simp at h) (fun i r j av h=>by simp at h))
 ·rw [show look i (σ.put t (.ls n [])).t=look i σ.t from aj e] at hi
  exact ok.tm i av hi
theorem G9 (s:Int):aU Tryz.prog 50 [.sc (.int .u8 s)] (.tu [.sc (bG s),.sc (.bool (decide (1≤s∧s≤4)))]):=by
 refine aU.DY (xs:=[.int .u8 s]) (v:=.tuple #[bG s,.bool (decide (1≤s∧s≤4))]) rfl (fun F=>.tu _ _ rfl fun i av u a b=>?_) fun w=>?_
 ·exact akr
 ·by_cases h:1≤s∧s≤4
  ·rcases bQ h with rfl|rfl|rfl|rfl
   ·exact (ay9 w).mono fun e w' ⟨he,hw⟩=>⟨he,hw ▸ Below.refl _ _⟩
   ·exact (aza w).mono fun e w' ⟨he,hw⟩=>⟨he,hw ▸ Below.refl _ _⟩
   ·exact (azb w).mono fun e w' ⟨he,hw⟩=>⟨he,hw ▸ Below.refl _ _⟩
   ·exact (azc w).mono fun e w' ⟨he,hw⟩=>⟨he,hw ▸ Below.refl _ _⟩
  ·have e:bG s=.nilIface:=by
    unfold bG
    rw [if_neg (by omega),if_neg (by omega),if_neg (by omega),if_neg (by omega)]
   rw [e,cZ h]
   exact (ath s w au).mono fun e w' ⟨he,hw⟩=>⟨he,hw ▸ Below.refl _ _⟩
theorem nD (p:aS) (hO:jm p):aU Tryz.prog 51 [bK p] (.sc (.int .i64 (aV p))) :=
 aU.PG (pre:=[]) (post:=[]) rfl rfl (fun _=>.sc _) fun w M hM=>CO M p w hM hO
def iT(s:Int)(p:aS):List sJ:=if(1≤s∧s≤4)∧aV p=0 then kY s p p.evs.length else []
def qR(s:Int)(p:aS):Int:=if 1≤s∧s≤4 then aV p else 30
theorem Ai {s:Int} {p:aS} (h:¬ (1≤s∧s≤4)):iT s p=[]∧qR s p=30:=⟨if_neg fun x=>h x.1,if_neg h⟩
theorem uJ {s:Int} {p:aS} (h:1≤s∧s≤4)(h2:aV p≠0):iT s p=[]∧qR s p=aV p:=⟨if_neg fun x=>h2 x.2,if_pos h⟩
theorem pI {s:Int} {p:aS} (h:1≤s∧s≤4) (h2:aV p=0):iT s p=kY s p p.evs.length∧qR s p=0:=⟨if_pos ⟨h,h2⟩,by rw [← h2];exact if_pos h⟩
theorem Fp (s:Int) (p:aS) (hO:jm p):aU Tryz.prog 59 [.sc (.int .u8 s),bK p] (.tu [.ls 3 ((iT s p).map iR),.sc (.int .i64 (qR s p))]):=by
 refine jl Tryz.func59 Tryz.ntmps59 fun w0 F0=>?_;dsimp only [St.init,number,Nat.reduceAdd]
 have hn3:=hO.n3
 refine vO ?_
 refine WL.vl rfl (WV.call rfl (ak Tryz.func50 rfl rfl) rfl rfl (G9 s)) ?_
 refine vO ?_
 (refine W.cond rfl (fun hif=>?_) (fun hif=>?_)<;>(try simp only [gu,jS,kQ,kR,iy,kS] at hif))
 ·have hs:¬ (1≤s∧s≤4):=by simpa using hif
  rw [(Ai hs).1,(Ai hs).2]
  exact alT
 have hs:1≤s∧s≤4:=by simpa using hif
 refine vO ?_
 refine WL.vl rfl (WV.call rfl (ak Tryz.func51 rfl rfl) rfl rfl (nD p hO)) ?_
 refine vO ?_
 (refine W.cond rfl (fun hif=>?_) (fun hif=>?_)<;>(try simp only [gu,jS,kQ,kR,iy,kS] at hif))
 ·have h0:aV p≠0:=by simpa using hif
  rw [(uJ hs h0).1,(uJ hs h0).2]
  exact alT
 have h0:aV p=0:=by simpa using hif
 rw [(pI hs h0).1,(pI hs h0).2]
 refine vO ?_
 refine W.tr (Tr.nil (t:=9) 122 3 rfl rfl) ?_
 refine W.loop (fun k:Nat=>k≤p.evs.length) (fun k=>⟨[(3,.pt 0 0 0),(6,.sc (bG s)),(9,.sl 1),(25,.sc (.int .i64 p.evs.length)),(26,.sc (.int .i64 k))],[(0,.box 30 (bK p).cells),(1,.row 122 3 ((kY s p k).map iR))],2⟩) (fun k=>p.evs.length - k) 0 au (zqt id) fun k hk=>?_
 refine vO ?_
 (refine W.cond rfl (fun hif=>?_) (fun hif=>?_)<;>(try simp only [gu,jS,kQ,kR,iy,kS] at hif))
 ·have hk2:k < p.evs.length:=by omega
  have hl1:=Fg s hO k hk
  have hl2:=Fb s p k p.evs[k] (hO.n4 k hk2)
  have hrow:(kY s p k).map iR++(mG s p k p.evs[k]).map iR=(kY s p (k+1)).map iR:=by rw [nX s p hk2,fC]
  refine vO ?_
  refine WL.vl rfl (WV.call rfl (ak Tryz.func114 rfl rfl) rfl rfl (WC s hs p k hk2 hO (lG h0 k hk2))) ?_
  refine vO ?_
  exact ⟨k+1,by omega,by omega,kL (fun q=>bif Nat.beq q 1 then 2 else q) (by repeat (first|exact trivial|refine ⟨⟨?_,?_,?_⟩,?_⟩|exact congrArg (fun r=>some (AO.row _ _ r)) hrow|rfl)) rfl⟩
 ·have he:k=p.evs.length:=by omega
  subst he
  refine vO ?_
  refine W.tr (Tr.freeze 1 rfl) ?_
  exact qM
theorem acd (s:Int) (p:aS) (hO:jm p):aU Tryz.prog 19 [.sc (.int .u8 s),bK p] (.sc (.bool (qR s p == 0 && ((iT s p).length:Int) == 0))):=by
 refine jl Tryz.func19 Tryz.ntmps19 fun w0 F0=>?_;dsimp only [St.init,number,Nat.reduceAdd]
 refine ao8 ?_
 refine WL.vl rfl (WV.call rfl (ak Tryz.func59 rfl rfl) rfl rfl (Fp s p hO)) ?_
 refine ao8 ?_
 have hl:(iT s p).length≤27000:=by
  exact ak2
 refine WL.apS rfl rfl rfl rfl (fun hp=>?_) (fun hp=>?_)
 ·have e:qR s p=0:=iY hp
  refine ao8 ?_
  refine W.ret (fin1 rfl rfl (Ap ?_) rfl)
  rw [e];rfl
 ·have e:qR s p≠0:=Ew hp
  refine ao8 ?_
  refine W.ret (fin1 rfl rfl (Ap ?_) rfl)
  rw [show (qR s p == 0)=false by simpa using e];rfl
section
variable {B:World→View→Prop} {gl:Nat} {P:Program} {C:Cx} {ops:Array Oper} {rest:List Oper} {σ σ':St} {G G':Gh} {a:Act} {w w':World} {o:Oper} {d:Tmp} {Q:Exit→St→Prop}
theorem aiU {F:View}:∀ {l:List AV} {xs:List Value},EG l=some xs→xs.length=l.length∧∀ (i:Nat) av u,l[i]?=some av→xs[i]?=some u→RP F av u
 | [],xs,h=>by cases h;exact ⟨rfl,fun i av u x=>by simp at x⟩
 | x::r,xs,h=>by
  cases x with
  | sc v =>
   cases hr:EG r with
   | none=>simp [EG,hr] at h
   | some vs =>
    simp [EG,hr] at h
    subst h
    obtain ⟨g1,g2⟩:=aiU (F:=F) hr
    refine ⟨by simp [g1],fun i av u p q=>?_⟩
    cases i with
    | zero=>cases p;cases q;exact .sc _
    | succ i=>exact g2 i av u Qy rQ
  | _=>simp [EG] at h
theorem aiT {F:View} {av:AV} {v:Value} (h:plV av=some v):RP F av v:=by
 cases av with
 | sc x=>cases h;exact .sc _
 | ag l =>
  cases hs:EG l with
  | none=>simp [plV,hs] at h
  | some xs =>
   simp [plV,hs] at h
   subst h
   obtain⟨g1,g2⟩:=aiU (F:=F) hs
   exact .ag l _ (by simpa using g1) fun i av u p q=>g2 i av u p rQ
 | _=>cases h
theorem aiS {F:View}:∀ {l:List AV} {xs:List Value},plL l=some xs→xs.length=l.length∧∀ (i:Nat) av u,l[i]?=some av→xs[i]?=some u→RP F av u
 | [],xs,h=>by cases h;exact ⟨rfl,fun i av u x=>by simp at x⟩
 | x::r,xs,h=>by
  unfold plL at h
  split at h
  ·rename_i v vs h1 h2
   cases h
   obtain ⟨g1,g2⟩:=aiS (F:=F) h2
   refine ⟨by simp [g1],fun i av u p q=>?_⟩
   cases i with
   | zero=>cases p;cases q;exact aiT h1
   | succ i=>exact g2 i av u Qy rQ
  ·cases h
def plT:AV→Option Value
 | .tu l =>
  match plL l with
  | some xs=>some (.tuple xs.toArray)
  | none=>none
 | av=>plV av
theorem Lc {F:View} {av:AV} {v:Value} (h:plT av=some v):RP F av v:=by
 cases av with
 | tu l =>
  cases hs:plL l with
  | none=>simp [plT,hs] at h
  | some xs =>
   simp [plT,hs] at h
   subst h
   obtain⟨g1,g2⟩:=aiS (F:=F) hs
   exact .tu l _ (by simpa using g1) fun i av u p q=>g2 i av u p rQ
 | _=>exact aiT h
theorem atx {F:View} {av:AV} {u v:Value} (h:plT av=some v)(r:RP F av u):u=v:=by
 cases av with
 | tu l =>
  cases hs:plL l with
  | none=>simp [plT,hs] at h
  | some xs =>
   simp [plT,hs] at h
   subst h
   obtain⟨cs,rfl,h1,h2⟩:=(R.pu (G:=⟨F,fun _=>0,fun _=>0,fun _=>undef,fun _ _=>False⟩) _ _ r).Qi
   have e:cs.toList=xs:=ZC (F:=F) hs rO fun i av u p q=>by
    have:=h2 i av u p rQ
    exact (by
     cases r with|tu _ _ _ r2=>exact r2 i av u p rQ)
   subst e
   simp
 | sc x=>exact ZF (av:=.sc x) h r
 | ag l=>exact ZF (av:=.ag l) h r
 | _=>cases h
theorem WV.awd {x:Operand} {l:List AV} (ho:o.op=.nilCheck x)(hx:σ.ev x=some (.pr l)):WV P C o σ (.pr l) :=
 WV.val (fun G a w ok=>(ok.nO hx).1) fun G a w ok=>by
  have r:=(ok.nO hx).2
  obtain⟨p,u,ep,_,_⟩:=r.oz.oz
  rw [ep] at r
  exact⟨.pointer (some p),by unfold execOp;simp [ho,ep],r⟩
theorem gY.prs {k:Nat} {T:TypeId} {cells:List AV} {l:List AV} (hk:look k σ.M=some (.box T cells)) (hl:∀ (j:Nat) x,l[j]?=some x→cells[j]?=some x) (ho:∀ x∈l,onB x=true):gY C σ (.pt k 0 0) (.pr l):=fun G a w ok v h=>by
 have hF:G.F.le fun q=>w.cell? q:=fun p u x=>ok.fw p u x
 obtain ⟨p,rfl,h1,h2,h3⟩:=h.lV
 have hcell:∀ (j:Nat) av,l[j]?=some av→∃ u,w.cell? (p.add j)=some u∧u.oneCell'=true∧RP G.F av u:=fun j av hj=>by
  have hb:=ho av (cO hj)
  have ho:av.own=false:=by cases av<;>first|rfl|cases hb
  obtain ⟨u,hu,hr,_⟩:=ok.cell (i:=0) (j:=0) (l:=cells) hk rfl (hl j av hj) h1 h2 h3 ho
  exact alc
 refine .pr l p (fun j=>(w.cell? (p.add j)).getD undef) (fun j av hj=>?_) (fun j av hj=>?_)
 ·exact akW
 exact akZ
theorem WV.apH (hB:Holds B gl C) {f:FuncId} {xs:Array Operand} {ts:Array TypeId} {args args':List AV} {res:AV} {rv:Value} (ho:o.op=.call { callee:=.value (.func f),args:=xs,argTypes:=ts }) (hc:∀ vs w,(callFunc f vs).run P w=.ok (.enter f vs) w)
  (hx:σ.evs xs.toList=some args) (hl:Dn C σ args args') (hst:∀ w F F',View.le F F'→B w F→B w F') (hp:plT res=some rv) (h:kJ B P f args' res):WV P C o σ res:=by
 intro G a w ok N Q' hN
 obtain ⟨e1,e2⟩:=ok.evl hx
 obtain ⟨q1,q2⟩:=hl.at_
 have hF:G.F.le fun q=>w.cell? q:=fun p u x=>ok.fw p u x
 have pG:=h w (fun q=>w.cell? q) (xs.toList.map a.eval) (hst w _ _ hF (hB.1 w G.F ok.bel ok.f0)) (fun _ _ x=>x) ⟨by rw [e1,q1],fun i av u p q=>by
  obtain ⟨b,hb,hL⟩:=q2 i av p
  exact hL G a w ok u (e2 i b u hb q)⟩
 refine lJ ?_
 have ev:a.eval (.func f)=.func (.func f) #[] #[]:=rfl
 have e3:(#[]++xs.map a.eval++#[]:Array Value)=(xs.toList.map a.eval).toArray:=by apply Bz;simp
 simp only [ho,resolve,ev,Deferred.ofValue,invoke,Sem.run_bind,Sem.run_pure,Result.andThen_ok,hc,Oper.upon,e3]
 refine pG.mono fun e w1 ⟨v,F',he,hb,h1,h2,h3,h4⟩=>?_
 subst he
 have hv:=atx hp h4
 subst hv
 exact hN _ { G with F:=G.F } w1 (fun Dk a'' Fj=>Fj.called hb (fun _ _ x=>x) (fun p u x=>by rw [hb.cell (aN (ok.fw p u x))];exact ok.fw p u x) (fun _ _ x=>.inl x)) (.pu _ _ (Lc hp)) (RP.bd (F:=G.F) (Lc hp) _)
end
def pch(v:Value):List PanicEntry:=[{ v:=v,recovered:=false }]
def Ud (B:World→View→Prop)(g:Nat)(P:Program)(f:FuncId)(args:List AV)(M:List (Nat×AO))(nk:Nat)(pv:Value):Prop :=
 ∀ (w:World)(G:Gh)(vs:List Value),B w G.F→(∀ x,vX G M x→g≤x)→X5 G w M nk→vs.length=args.length→(∀ (i:Nat) av u,args[i]?=some av→vs[i]?=some u→R G av u) →
  Calls P f vs.toArray w fun e w'=>e=.panicked (pch pv)∧Kept (vX G M) w w'∧∀ p u,G.F p=some u→w'.cell? p=some u
theorem Ud.intro {B:World→View→Prop} {g:Nat} (hS:QJ B g) {P:Program} {f:FuncId} {fn:Func} {c:Code} {args:List AV} {M:List (Nat×AO)} {nk:Nat} {pv:Value} (hf:P.funcs[f]?=some fn) (hb:fn.body=some c) {N:Nat} (hN:fn.ntmps=N) (hn:args.length≤N)
  (hp:args.all (AV.inn nk)=true)
  (h:∀ w0 F0 fp pg,Holds B g ⟨w0,F0,N,fp,nk,pg,[]⟩→W P ⟨w0,F0,N,fp,nk,pg,[]⟩ c ⟨number 0 args,M,nk⟩ (fun e _=>e=.panic (pch pv))):Ud B g P f args M nk pv:=by
 intro w G vs hB hlo hO hl hR
 subst hN
 refine calls_of_wp hf hb ?_
 have hH:Holds B g ⟨w,G.F,fn.ntmps,vX G M,nk,G,[]⟩:=⟨fun w2 F2 k1 k2=>hS.2 w w2 G.F F2 (fun i hi=>k1.block i (lH hi (hS.1 w G.F hB)) fun h=>by have:=hlo i h;omega) k2 hB,fun x hx=>hx.elim (fun h=>jV (hS.1 w G.F hB) h) (hlo x)⟩
 have h1:=h w G.F (vX G M) G hH G { tmps:=vs.toArray++Array.replicate (fn.ntmps - vs.toArray.size) undef,defers:=[] } w
  ⟨by simp;omega,⟨rfl,bJ _,fun k _=>⟨rfl,rfl,rfl⟩⟩,fun i av hx=>by
   obtain ⟨_,h2⟩:=kZ args 0 i av hx
   simp only [F7] at h2
   have hi:i < args.length:=(List.getElem?_eq_some_iff.1 h2).1
   have hv:i < vs.length:=by omega
   refine ⟨by show i < fn.ntmps;omega,E8 (List.all_eq_true.1 hp av (cO h2)),hR i av _ h2 ?_⟩
   simp [dM,Es,hv],
   Kept.refl _ _,hO.fw,fun _ _ h=>h,fun _ _ h=>.inl h,hO.ob,(fun k o x h1 h2=>⟨.inr ⟨k,o,h1,h2⟩,hO.my k o x h1 h2⟩),hO.dj,hO.dF⟩
 refine wp_mono h1 fun e a w' ⟨σ,G1,he,ok⟩=>?_
 subst he
 exact ⟨ok.df.1,rfl,ok.bel,fun p u x=>ok.fw p u (ok.f0 p u x)⟩
section
variable {B:World→View→Prop} {gl:Nat} {P:Program} {C:Cx} {σ:St} {G:Gh} {a:Act} {w:World} {o:Oper} {ops:Array Oper} {rest:List Oper} {Q:Exit→St→Prop} {d:Tmp}
theorem WL.stop (hg:o.guard=none)(h:∀ G a w,Ok C σ G a w→∀ N,o.wp P a w N (Post C Q)):WL P C ops (o::rest) σ Q:=fun G a w ok=>wpList_plain hg fun K hK=>h G a w ok K
theorem WL.pan {x:Operand} {t:TypeId} {v:Value} (hg:o.guard=none)(ho:o.op=.panic x)(hx:σ.ev x=some (.sc (.iface t v)))(k:Q (.panic (pch (.iface t v))) σ):WL P C ops (o::rest) σ Q :=
 WL.stop hg fun G a w ok N=>by
  have e:=ok.evs hx
  refine lJ ?_
  simp only [ho,e,Sem.run_bind,run_panic_iface,Oper.upon]
  exact⟨σ,G,k,ok⟩
theorem WV.mki {x:Operand} {T:TypeId} {l:List AV} {ys:List Value} (ho:o.op=.makeInterface T x) (hi:∀ v w,(Instr.makeInterface T v).run P w=.ok (.iface T v) w) (hx:σ.ev x=some (.ag l)) (hs:EG l=some ys):WV P C o σ (.sc (.iface T (.agg ys.toArray))) :=
 WV.val (fun _ _ _ _=>.sc _) fun G a w ok=>by
  have r:=(ok.nO hx).2
  obtain ⟨cs,e,h1,h2⟩:∃ cs:Array Value,a.eval x=.agg cs∧cs.size=l.length∧∀ (i:Nat) av u,l[i]?=some av→cs[i]?=some u→R G av u:=R.AX r
  have ey:=xW hs (cs:=cs.toList) rO fun i av u p q=>h2 i av u p rQ
  refine ⟨.iface T (.agg ys.toArray),?_,.pu _ _ (.sc _)⟩
  unfold execOp
  simp only [ho,e,Sem.run_bind,hi]
  rw [← ey]
  rfl
theorem af5 {f:FuncId} {o:Oper} {y:Operand} {xs:Array Operand} {ts:Array TypeId} {cs:Array Value} {R':Ending→World→Prop} {N:Act→World→Prop} {Q':Exit→Act→World→Prop} (ho:o.op=.call { callee:=.value y,args:=xs,argTypes:=ts })(hc:∀ vs w,(callFunc f vs).run P w=.ok (.enter f vs) w)
  (ey:a.eval y=.func (.func f) #[] cs)(h:Calls P f (xs.toList.map a.eval++cs.toList).toArray w R')(hN:∀ e w1,R' e w1→∃ c,e=.panicked c∧Q' (.panic c) a w1):o.wp P a w N Q':=by
 refine lJ ?_
 have e3:(#[]++xs.map a.eval++cs:Array Value)=(xs.toList.map a.eval++cs.toList).toArray:=by apply Bz;simp
 simp only [ho,resolve,ey,Deferred.ofValue,invoke,Sem.run_bind,Sem.run_pure,Result.andThen_ok,hc,Oper.upon,e3]
 refine h.mono fun e w1 hr=>?_
 obtain⟨c,rfl,hn⟩:=hN e w1 hr
 exact hn
theorem Ok.ax0 (ok:Ok C σ G a w) (hB:Holds B gl C) {f:FuncId} {args args':List AV} {M:List (Nat×AO)} {nk:Nat} {pv:Value} (ks:List Nat) {vs:List Value} (hl:vs.length=args'.length) (hR:∀ (i:Nat) av u,args'[i]?=some av→vs[i]?=some u→R G av u)
  (h:Ud B gl P f args M nk pv) (hks:ksB ks nk σ.nk=true) (ha:args.map (AV.ren (rhoC ks nk σ.nk))=args') (hp:args.all (AV.inn nk)=true) (hM:XY σ (rhoC ks nk σ.nk) nk M) :
  Calls P f vs.toArray w fun e w1=>∃ yc,e=.panicked (pch pv)∧Ok C ⟨σ.t,FD ks σ.M,σ.nk⟩ yc a w1:=by
 have ag1:=hks
 simp only [ksB,aW] at ag1
 obtain ⟨⟨⟨hk1,_⟩,hk3⟩,hk4⟩:=ag1
 have hlen:=dW hk1
 have YI:=RF hk3
 have WM:∀ i,i<nk→rhoC ks nk σ.nk i=ks.getD i 0:=fun i hi=>by
  exact amc
 have hat:∀ i,i<nk→ks[i]?=some (ks.getD i 0):=fun i hi=>by
  exact aaA
 have adW:∀ k o,look k M=some o→look (ks.getD k 0) σ.M=some (o.ren (rhoC ks nk σ.nk))∧o.inn nk=true∧k<nk:=fun k o h=>by
  exact akM
 have hMk:∀ x,vX (G.ren (rhoC ks nk σ.nk)) M x→∃ k o,k<nk∧look (ks.getD k 0) σ.M=some o∧G.fp (ks.getD k 0) x:=fun x ⟨k,o,h1,h2⟩=>by
  exact aj8
 have hO:X5 (G.ren (rhoC ks nk σ.nk)) w M nk:=by
  exact aqS
 have pG:=h w (G.ren (rhoC ks nk σ.nk)) vs (hB.1 w G.F ok.bel ok.f0) (fun x hx=>by
   obtain ⟨k,o,_,h1,h2⟩:=hMk x hx
   exact hB.2 x (ok.my _ o x h1 h2).1) hO (by rw [hl,← ha];simp) fun i av u p q=>by
  have:args'[i]?=some (av.ren (rhoC ks nk σ.nk)):=by rw [← ha,bT,p];rfl
  exact R.atK (List.all_eq_true.1 hp av (cO p)) (hR i _ u this q)
 refine pG.mono fun e w1 ⟨he,q1,q2⟩=>?_
 obtain ⟨yc,ok',_⟩:=ok.qo (M:=M) (M':=[]) (dh:=nk) (G':=G.ren (rhoC ks nk σ.nk)) hks (fun k o h=>⟨(adW k o h).2.2,_,(adW k o h).1⟩) hMk q1 (fun _ _ h=>h) (fun p u x=>.inl x)
  ⟨q2,(fun k o h=>by cases h),(fun k o x h=>by cases h),(fun k o k' o' x h=>by cases h),(fun k o x p u h=>by cases h)⟩ (fun k o x h=>by cases h) (fun k _=>⟨rfl,rfl,rfl⟩) (bJ _) rfl rfl
 refine ⟨yc,he,?_⟩
 have e0:σ.nk+(nk-nk)=σ.nk:=by omega
 rw [e0] at ok'
 exact ok'
theorem WL.ctp (hB:Holds B gl C) {f:FuncId} {args args':List AV} {M:List (Nat×AO)} {nk:Nat} {pv:Value} {t:List (Nat×AV)} {M0:List (Nat×AO)} {n0:Nat} (ks:List Nat) (hg:o.guard=none) (he:Uu ⟨t,M0,n0⟩ o.op=some (f,args')) (hc:∀ vs w,(callFunc f vs).run P w=.ok (.enter f vs) w)
  (h:Ud B gl P f args M nk pv) (hks:ksB ks nk n0=true) (ha:args.map (AV.ren (rhoC ks nk n0))=args') (hp:args.all (AV.inn nk)=true) (hM:XY ⟨t,M0,n0⟩ (rhoC ks nk n0) nk M)
  (k:Q (.panic (pch pv)) ⟨t,FD ks M0,n0⟩):WL P C ops (o::rest) ⟨t,M0,n0⟩ Q:=by
 unfold Uu at he
 split at he
 ·rename_i y xs ts ho
  split at he
  ·rename_i fv mg hy hx
   split at he
   ·rename_i f' caps hf
    cases he
    refine WL.stop hg fun G a w ok N=>?_
    obtain ⟨cs,ey,h1,h2⟩:=Dx hf (ok.nO hy).2
    obtain ⟨hl,hR⟩:=ok.agw (xs:=⟨xs⟩) hx h1 h2 rfl
    exact af5 ho hc ey (ok.ax0 hB ks hl hR h hks ha hp hM) fun e w1 ⟨yc,he,ok'⟩=>⟨_,he,_,yc,k,ok'⟩
   ·cases he
  ·cases he
 ·cases he
end
end
end Go.Proofs.YthehkchjdkdbiaaGreatDoor
