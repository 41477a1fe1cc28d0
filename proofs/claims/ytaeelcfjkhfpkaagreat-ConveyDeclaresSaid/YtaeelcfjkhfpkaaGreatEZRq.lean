/- A walk that knows values as trees: what a function hands back, any number of results. -/
import Derived.Test.YtaeelcfjkhfpkaaGreatEVRq
set_option linter.unusedVariables false
set_option linter.unusedSimpArgs false
namespace Go.Proofs.YtaeelcfjkhfpkaaGreat
section
open Go.RowKit
section
variable {P:Program} {C:Cx} {ops:Array Oper} {o:Oper} {rest:List Oper} {σ:St} {Q:Exit→St→Prop} {d:Tmp} {mem:List Bool} {Mc:List (Nat×AO)} {nk0 k:Nat}
def memB (N:Nat) (ops:Array Oper) (mem:List Bool) (Mc:List (Nat×AO)) (k nk:Nat) (t:List (Nat×AV)) (o:Oper):Option (Tmp×Bool) :=
 match o.dst with
 | some d =>
  bif !(mem.getD k false) && Nat.blt d N && msInn nk Mc && tsInn nk (onlyT t (o.looksAt ops))then
   match guardK ops o ⟨onlyT t (o.looksAt ops),Mc,nk⟩with
   | some b=>some (d,b)
   | none=>none
  else none
 | none=>none
theorem memB_of {nk:Nat} {t:List (Nat×AV)} {b:Bool} (h:memB C.N ops mem Mc k nk t o=some (d,b)):mem.getD k false=false∧o.dst=some d∧Nat.blt d C.N=true∧msInn nk Mc=true∧tsInn nk (onlyT t (o.looksAt ops))=true∧guardK ops o ⟨onlyT t (o.looksAt ops),Mc,nk⟩=some b:=by
 unfold memB at h
 split at h
 ·rename_i x hds
  cases hb:!(mem.getD k false) && Nat.blt x C.N && msInn nk Mc && tsInn nk (onlyT t (o.looksAt ops))with
  | false=>rw [hb]at h;cases h
  | true =>
   rw [hb]at h
   simp only [cond_true]at h
   simp only [Bool.and_eq_true,Bool.not_eq_true']at hb
   split at h
   ·rename_i b' hg
    cases h
    exact ⟨hb.1.1.1,hds,hb.1.1.2,hb.1.2,hb.2,hg⟩
   ·cases h
 ·cases h
def wrB(mem:List Bool)(N k:Nat)(o:Oper):Option Tmp :=
 match o.dst,o.guard with
 | some d,none=>bif mem.getD k false && Nat.blt d N then some d else none
 | _,_=>none
theorem wrB_of {N:Nat} (h:wrB mem N k o=some d):mem.getD k false=true∧o.dst=some d∧o.guard=none∧Nat.blt d N=true:=by
 unfold wrB at h
 split at h
 ·rename_i x h1 h2
  cases hb:mem.getD k false && Nat.blt x N with
  | false=>rw [hb]at h;cases h
  | true =>
   rw [hb]at h
   cases h
   simp only [Bool.and_eq_true]at hb
   exact⟨hb.1,h1,h2,hb.2⟩
 ·cases h
end
def onlyM (M:List (Nat×AO)):List Nat→List (Nat×AO)
 | []=>[]
 | x::r =>
  match look x M with
  | some o=>(x,o)::onlyM M r
  | none=>onlyM M r
def memOf(l:List Oper):List Bool:=l.map fun o =>
 match o.op with
 | .buildSlice _ _ _=>true
 | .call { callee:=.builtin .append,.. }=>true
 | _=>false
structure StoD where
 k:Nat
 i:Nat
 j:Nat
 T:TypeId
 n:Nat
 rows:List (List AV)
 l:List AV
def stoV (P:Program) (σ:St):Op→Option StoD
 | .store T x y =>
  match σ.ev x,σ.ev y with
  | some (.pt k i j),some av =>
   match sizeB P T,look k σ.M with
   | some m,some (.row T' n rows)=>bif av.cellB && Nat.beq av.cells.length m && av.cells.all AV.oneB && av.cells.all AV.pu0 then some ⟨k,i,j,T',n,rows,av.cells⟩else none
   | _,_=>none
  | _,_=>none
 | _=>none
section
variable {P:Program} {C:Cx} {ops:Array Oper} {o:Oper} {rest:List Oper} {σ:St} {Q:Exit→St→Prop} {d:Tmp}
theorem WL.sto {x:StoD} {r:List AV} {t:List (Nat×AV)} {M M':List (Nat×AO)} {nk:Nat} (hg:o.guard=none) (hds:o.dst=none) (h:stoV P ⟨t,M,nk⟩ o.op=some x) (hM:remS x.k M=some M') (hr:x.rows[x.i]?=some r) (hj:x.j+x.l.length≤r.length)
  (k:WL P C ops rest ⟨t,(x.k,.row x.T x.n (x.rows.set x.i (putL x.j x.l r)))::M',nk⟩ Q):WL P C ops (o::rest) ⟨t,M,nk⟩ Q:=by
 rw [remS_eq hM] at k
 clear hM
 refine WL.op hg ?_ k
 unfold stoV at h
 split at h
 ·rename_i T x y ho
  split at h
  ·rename_i k i j av hx hy
   split at h
   ·rename_i m T' n rows hm hk
    cases hb:av.cellB && Nat.beq av.cells.length m && av.cells.all AV.oneB && av.cells.all AV.pu0 with
    | false=>rw [hb] at h;cases h
    | true =>
     rw [hb] at h
     simp only [Bool.and_eq_true] at hb
     cases h
     refine wo_rem (WO.store (σ:=⟨t,M,nk⟩) ho hds hm hx hk hy hb.1.1.1 rfl (Nat.eq_of_beq_eq_true hb.1.1.2) hb.1.2 ?_)
     simp only at hr hj
     simp only [AO.put,hr]
     rw [if_pos ⟨hj,hb.2⟩]
   ·cases h
  ·cases h
 ·cases h
def mmV (σ:St):Op→Option (IntKind×Int)
 | .call { callee:=.builtin .min,args:=⟨[x,y]⟩,.. } =>
  match σ.ev x,σ.ev y with
  | some (.sc (.int k m)),some (.sc (.int _ n))=>some (k,if n<m then n else m)
  | _,_=>none
 | .call { callee:=.builtin .max,args:=⟨[x,y]⟩,.. } =>
  match σ.ev x,σ.ev y with
  | some (.sc (.int k m)),some (.sc (.int _ n))=>some (k,if n > m then n else m)
  | _,_=>none
 | _=>none
def isCmp:Op→Bool
 | .binOp .lss _ _ _ _=>true
 | .binOp .leq _ _ _ _=>true
 | .binOp .gtr _ _ _ _=>true
 | .binOp .geq _ _ _ _=>true
 | .binOp .eql _ _ _ _=>true
 | _=>false
def isNeq:Op→Bool
 | .binOp .neq _ _ _ _=>true
 | _=>false
theorem WL.bt {φ:Prop} [i:Decidable φ] (hc:isCmp o.op=true)(hd:dstB C.N o=some d)(h:stepV P σ o.op=some (.sc (.bool (decide φ))))(hφ:φ)(k:WL P C ops rest (σ.put d (.sc (.bool true))) Q):WL P C ops (o::rest) σ Q:=by
 rw [decide_eq_true hφ] at h
 exact WL.vl hd (stepV_of rfl h) k
theorem WL.bf {φ:Prop} [i:Decidable φ] (hc:isCmp o.op=true)(hd:dstB C.N o=some d)(h:stepV P σ o.op=some (.sc (.bool (decide φ))))(hφ:¬ φ)(k:WL P C ops rest (σ.put d (.sc (.bool false))) Q):WL P C ops (o::rest) σ Q:=by
 rw [decide_eq_false hφ] at h
 exact WL.vl hd (stepV_of rfl h) k
theorem WL.nt {φ:Prop} [i:Decidable φ] (hc:isNeq o.op=true)(hd:dstB C.N o=some d)(h:stepV P σ o.op=some (.sc (.bool (!decide φ))))(hφ:¬ φ)(k:WL P C ops rest (σ.put d (.sc (.bool true))) Q):WL P C ops (o::rest) σ Q:=by
 rw [decide_eq_false hφ] at h
 exact WL.vl hd (stepV_of rfl h) k
theorem WL.nf {φ:Prop} [i:Decidable φ] (hc:isNeq o.op=true)(hd:dstB C.N o=some d)(h:stepV P σ o.op=some (.sc (.bool (!decide φ))))(hφ:φ)(k:WL P C ops rest (σ.put d (.sc (.bool false))) Q):WL P C ops (o::rest) σ Q:=by
 rw [decide_eq_true hφ] at h
 exact WL.vl hd (stepV_of rfl h) k
theorem WL.e1 {t t':List (Nat×AV)} {M M':List (Nat×AO)} {nk nk':Nat} (h:opE P C.N t M nk o=some (t',M',nk')) (k:WL P C ops rest ⟨t',M',nk'⟩ Q):WL P C ops (o::rest) ⟨t,M,nk⟩ Q :=
 WL.op (opE_of h).1 (opE_of h).2 k
end
end
section
open Go.RowKit
def dstOk(N:Nat):Option Tmp→Bool
 | some d=>Nat.blt d N
 | none=>true
section
variable {P:Program} {C:Cx} {σ σ':St} {G G':Gh} {a:Act} {w w':World} {o:Oper} {d:Tmp}
theorem dstOk_of {N:Nat} {d:Option Tmp} (h:dstOk N d=true):∀ x,d=some x→x<N:=fun x hx=>by subst hx;exact of_blt h
variable {ops:Array Oper} {rest:List Oper} {Q:Exit→St→Prop}
end
end
section
open Go.RowKit
def Ctg(B:World→View→Prop)(P:Program)(f:FuncId)(args:List AV)(res:AV):Prop :=
 ∀ (w:World)(F:View)(vs:List Value),B w F→(∀ p u,F p=some u→w.cell? p=some u)→RL F args vs →
  Calls P f vs.toArray w fun e w'=>∃ v F',e=.returned v∧Below w.heap.size w w'∧View.le F F'∧(∀ p u,F' p=some u→w'.cell? p=some u)∧(∀ p u,F' p=some u→F p=some u∨w.heap.size≤p.block)∧RP F' res v
def Stab(B:World→View→Prop)(g:Nat):Prop:=(∀ w F,B w F→g≤w.heap.size)∧∀ w w' F F',(∀ i,i<g→w'.heap[i]?=w.heap[i]?)→View.le F F'→B w F→B w' F'
def Holds(B:World→View→Prop)(g:Nat)(C:Cx):Prop:=(∀ w F,Kept C.fp C.w0 w→C.F0.le F→B w F)∧∀ x,C.may x→g≤x
theorem Ctr.g {B:World→View→Prop} {P:Program} {f:FuncId} {args:List AV} {res:AV} (h:Ctr P f args res):Ctg B P f args res:=fun w F vs _ hF hR=>h w F vs hF hR
section
variable {B:World→View→Prop} {gl:Nat} {P:Program} {C:Cx} {ops:Array Oper} {rest:List Oper} {σ σ':St} {G G':Gh} {a:Act} {w w':World} {o:Oper} {d:Tmp} {Q:Exit→St→Prop}
def divV (σ:St):Op→Option (Prop×Int)
 | .binOp .quo _ x y _ =>
  match σ.ev x,σ.ev y with
  | some (.sc (.int .i64 m)),some (.sc (.int .i64 n))=>some ((0≤m∧m≤9223372036854775807)∧0<n,m/n)
  | _,_=>none
 | .binOp .rem _ x y _ =>
  match σ.ev x,σ.ev y with
  | some (.sc (.int .i64 m)),some (.sc (.int .i64 n))=>some ((0≤m∧m≤9223372036854775807)∧0<n,m % n)
  | _,_=>none
 | _=>none
theorem divV_of {φ:Prop} {z:Int} (h:divV σ o.op=some (φ,z))(hφ:φ):WV P C o σ (.sc (.int .i64 z)):=by
 unfold divV at h
 split at h
 ·rename_i T x y Ty ho
  split at h
  ·rename_i m n h1 h2
   cases h
   obtain⟨⟨h3,h4⟩,h5⟩:=hφ
   have e:IntKind.i64.wrap (m/n)=m/n:=I64.wrap (by
    have:=Int.ediv_le_self n h3
    have:=Int.ediv_nonneg h3 (Int.le_of_lt h5)
    unfold I64;omega)
   exact WV.sc fun G a w ok=>by unfold execOp;simp [ho,ok.evs h1,ok.evs h2,eqGuard,binOp,Op.intDiv,Int.tdiv_eq_ediv_of_nonneg h3,show ¬ n=0 by omega,e]
  ·cases h
 ·rename_i T x y Ty ho
  split at h
  ·rename_i m n h1 h2
   cases h
   obtain⟨⟨h3,h4⟩,h5⟩:=hφ
   exact WV.sc fun G a w ok=>by unfold execOp;simp [ho,ok.evs h1,ok.evs h2,eqGuard,binOp,Op.intDiv,Int.tmod_eq_emod_of_nonneg h3,show ¬ n=0 by omega]
  ·cases h
 ·cases h
theorem WL.div {φ:Prop} {z:Int} (hd:dstB C.N o=some d)(h:divV σ o.op=some (φ,z))(hφ:φ)(k:WL P C ops rest (σ.put d (.sc (.int .i64 z))) Q):WL P C ops (o::rest) σ Q:=WL.vl hd (divV_of h hφ) k
end
end
section
open Go.RowKit
def resOne (tmps:Array Value):ResultVar→Sem Value
 | .tmp t=>pure (tmps.getD t undef)
 | .cell a t=>do loadVar t (← asAddr (tmps.getD a undef))
def resV (P:Program)(σ:St):ResultVar→Option AV
 | .tmp t=>look t σ.t
 | .cell t T =>
  match look t σ.t with
  | some (.pt k 0 0) =>
   match look k σ.M,aggB P T with
   | some (.box T' cells),some true =>
    match sizeB P T with
    | some n=>bif Nat.beq cells.length n then some (.ag cells)else none
    | none=>none
   | _,_=>none
  | _=>none
def resL (P:Program)(σ:St):List ResultVar→Option (List AV)
 | []=>some []
 | r::l =>
  match resV P σ r,resL P σ l with
  | some a,some b=>some (a::b)
  | _,_=>none
section
variable {P:Program} {C:Cx} {σ:St} {G:Gh} {a:Act} {w:World}
theorem resV_of (ok:Ok C σ G a w) {r:ResultVar} {av:AV} (h:resV P σ r=some av)(hp:av.pu2=true):∃ v,(resOne a.tmps r).run P w=.ok v w∧RP G.F av v:=by
 cases r with
 | tmp t=>exact⟨a.tmps.getD t undef,rfl,(pu2_bd hp 0).rp (ok.tm t _ h).2.2⟩
 | cell t T =>
  simp only [resV] at h
  split at h
  ·rename_i k ht
   split at h
   ·rename_i T' cells hk hT
    split at h
    ·rename_i n hn
     cases hb:Nat.beq cells.length n with
     | false=>rw [hb] at h;cases h
     | true =>
      rw [hb] at h
      cases h
      obtain⟨p,ep,p1,p2,p3⟩:=(ok.tm t _ ht).2.2.pt_of
      obtain⟨_,_,g3,cs,Φ,g4,g5,_,_,g6⟩:=ok.ob k _ hk
      obtain rfl:=addr_eq p1 p2 p3
      rw [Nat.zero_mul,Nat.zero_add] at ep
      have hpc:cells.all AV.pu0=true:=hp
      refine⟨.agg cs,?_,.ag _ _ g5 fun i av u x y=>(pu0_bd (List.all_eq_true.1 hpc av (List.mem_of_getElem? x)) 0).rp ((g6 i av u x y).r (pu0_own (List.all_eq_true.1 hpc av (List.mem_of_getElem? x))))⟩
      unfold aggB at hT
      cases hu:P.underlying T with
      | none=>simp [hu] at hT
      | some d =>
       have hsz:sizeB P T=some cs.size:=by rw [hn,g5];exact congrArg some (Nat.eq_of_beq_eq_true hb).symm
       have:=results_cell_row (fn:={ (default:Func) with results:=#[.cell t T] }) rfl a.tmps w (G.b k) T' cs (0,0) d ep g4 hu (by rw [hu] at hT;cases d<;>simp_all) hsz
       have e:(results { (default:Func) with results:=#[.cell t T] } a.tmps).run P w=(resOne a.tmps (.cell t T)).run P w:=by
        unfold results resOne
        first|(simp;done)|(simp;rfl)
       rw [← e];exact this
    ·cases h
   ·cases h
  ·cases h
theorem resL_of (ok:Ok C σ G a w):∀ {l:List ResultVar} {avs:List AV},resL P σ l=some avs→avs.all AV.pu2=true→∃ vs:List Value,(l.mapM (resOne a.tmps)).run P w=.ok vs w∧vs.length=avs.length∧∀ (i:Nat)av u,avs[i]?=some av→vs[i]?=some u→RP G.F av u
 | [],avs,h,_=>by cases h;exact ⟨[],rfl,rfl,fun i av u x=>by simp at x⟩
 | r::l,avs,h,hp=>by
  cases h1:resV P σ r with
  | none=>simp only [resL,h1]at h;cases h
  | some x =>
  cases h2:resL P σ l with
  | none=>simp only [resL,h1,h2]at h;cases h
  | some y =>
   simp only [resL,h1,h2,Option.some.injEq]at h
   subst h
   simp only [List.all_cons,Bool.and_eq_true]at hp
   obtain ⟨v,e1,e2⟩:=resV_of ok h1 hp.1
   obtain ⟨vs,f1,f2,f3⟩:=resL_of ok h2 hp.2
   refine ⟨v::vs,by simp [List.mapM_cons,Sem.run_bind,e1,f1,Result.andThen],by simp [f2],fun i av u p q=>?_⟩
   cases i with
   | zero=>cases p;cases q;exact e2
   | succ i=>exact f3 i av u (by simpa using p) (by simpa using q)
theorem finN {fn:Func} {avs:List AV} {res:AV} (h:resL P σ fn.results.toList=some avs)(hp:avs.all AV.pu2=true)(hl:Nat.beq avs.length 1=false)(e:.tu avs=res):QFin P fn C res .ret σ:=by
 refine⟨.inr rfl,fun G a w ok=>?_⟩
 subst e
 obtain⟨vs,e1,e2,e3⟩:=resL_of ok h hp
 refine⟨.tuple vs.toArray,G.F,?_,fun _ _ h=>h,ok.fw,fun _ _ h=>.inl h,.tu _ _ (by simpa using e2) fun i av u x y=>e3 i av u x (by simpa using y)⟩
 have e:results fn a.tmps=(do let vs ← fn.results.mapM (resOne a.tmps);pure (if h:vs.size=1 then vs[0] else .tuple vs)):=rfl
 have hne:¬ vs.toArray.size=1:=by
  intro h1
  have:avs.length=1:=by rw [← e2];simpa using h1
  rw [this] at hl;cases hl
 rw [e,Array.mapM_eq_mapM_toList]
 simp only [Sem.run_bind,Sem.run_map,e1,Result.andThen]
 simp
 intro h1
 exact absurd (by simpa using h1) hne
end
end
end Go.Proofs.YtaeelcfjkhfpkaaGreat
