/- Arguments opened: pieces. -/
import Derived.Test.YtaeelcfjkhfpkaaGreatEVPq
import Derived.Test.YtaeelcfjkhfpkaaGreatTkPq
import Derived.Test.YtaeelcfjkhfpkaaGreatPl1Pq
import Derived.Test.YtaeelcfjkhfpkaaGreatOpPq
set_option maxHeartbeats 1600000
set_option maxRecDepth 100000
set_option linter.unusedVariables false
set_option linter.unusedSimpArgs false
namespace Go.Proofs.YtaeelcfjkhfpkaaGreat
section
open Go.RowKit
def newF(F:View)(w w':World):View:=fun p=>if p.block<w.heap.size then F p else w'.cell? p
theorem newF_le {F:View} {w w':World} (hF:∀ p u,F p=some u→w.cell? p=some u):View.le F (newF F w w'):=fun p u h=>by
 unfold newF
 rw [if_pos (cell_block (hF p u h))];exact h
theorem newF_fw {F:View} {w w':World} (hF:∀ p u,F p=some u→w.cell? p=some u)(hb:Below w.heap.size w w'):∀ p u,newF F w w' p=some u→w'.cell? p=some u:=fun p u h=>by
 unfold newF at h
 by_cases e:p.block<w.heap.size
 ·rw [if_pos e]at h;rw [hb.cell e];exact hF p u h
 ·rw [if_neg e]at h;exact h
theorem newF_new {F:View} {w w':World}:∀ p u,newF F w w' p=some u→F p=some u∨w.heap.size≤p.block:=fun p u h=>by
 unfold newF at h
 by_cases e:p.block<w.heap.size
 ·rw [if_pos e]at h;exact .inl h
 ·exact .inr zqo
theorem rp_of_rd {α:Type} {F:View} {w w':World} {n:Nat} {l:List α} {e:α→List AV} {f:α→List Value} {A:Option Addr} {c B:Nat} (hr:Rd w' B n A (l.map f)) (hA:∀ ad,A=some ad→w.heap.size≤ad.block) (hc:l.length≤c)
  (hf:∀ x,(e x).length=n) (hef:∀ x (j:Nat) av,(e x)[j]?=some av→∃ u,av=.sc u∧(f x)[j]?=some u∧u.oneCell'=true):RP (newF F w w') (.ls n (l.map e)) (.slice A l.length c):=by
 have hcell:∀ ad,A=some ad→∀ (k:Nat) x,l[k]?=some x→∀ (j:Nat) u,(f x)[j]?=some u→newF F w w' (ad.add (k*n+j))=some u:=fun ad had k x hk j u hu=>by
  have hl:0<(l.map f).length:=by have:=(List.getElem?_eq_some_iff.1 hk).1;simp;omega
  obtain ⟨ad',e',_,h2⟩:=hr hl
  rw [had] at e'
  cases e'
  unfold newF
  rw [if_neg (by rw [block_of_add];have:=hA ad had;omega)]
  exact h2 k (f x) (by rw [List.getElem?_map,hk];rfl) j u hu
 have key:∀ (i:Nat) r (j:Nat) av,(l.map e)[i]?=some r→r[j]?=some av→∃ x u,l[i]?=some x∧av=.sc u∧(f x)[j]?=some u∧u.oneCell'=true:=fun i r j av hr' hav=>by
  rw [List.getElem?_map] at hr'
  cases hx:l[i]? with
  | none=>simp [hx] at hr'
  | some x =>
   rw [hx] at hr'
   obtain rfl:e x=r:=by simpa using hr'
   obtain ⟨u,a,b,c⟩:=hef x j av hav
   exact ⟨x,u,rfl,a,b,c⟩
 have hlen:l.length=(l.map e).length:=by simp
 rw [hlen]
 refine .ls n (l.map e) A c (A.getD ⟨0,0,none⟩) (fun i j=>((l[i]?).bind fun x=>(f x)[j]?).getD undef) (by simpa using hc) (fun r hr'=>?_) (fun hp=>?_) (fun i r j av hr' hav=>?_) (fun i r j av hr' hav=>?_)
 ·obtain ⟨x,_,rfl⟩:=List.mem_map.1 hr';exact hf x
 ·obtain ⟨ad,e',_⟩:=hr (by simpa using hp)
  rw [e'];rfl
 ·obtain ⟨x,u,h1,h2,h3,h4⟩:=key i r j av hr' hav
  obtain ⟨ad,e',_⟩:=hr (by have:=(List.getElem?_eq_some_iff.1 h1).1;simp;omega)
  simp only [h1,Option.bind_some,h3,Option.getD_some]
  rw [e']
  exact ⟨hcell ad e' i x h1 j u h3,h4⟩
 ·obtain ⟨x,u,h1,h2,h3,h4⟩:=key i r j av hr' hav
  simp only [h1,Option.bind_some,h3,Option.getD_some,h2]
  exact .sc u
theorem eCrs_of(x:Int×Int×Bool)(j:Nat)(av:AV)(h:(eCrs x)[j]?=some av):∃ u,av=.sc u∧(crsCells x)[j]?=some u∧u.oneCell'=true:=by
 match j with
 | 0=>cases h;exact⟨_,rfl,rfl,rfl⟩
 | 1=>cases h;exact⟨_,rfl,rfl,rfl⟩
 | 2=>cases h;exact⟨_,rfl,rfl,rfl⟩
 | j+3=>simp [eCrs]at h
theorem eInt_of(x:Int)(j:Nat)(av:AV)(h:(eInt x)[j]?=some av):∃ u,av=.sc u∧(intCell x)[j]?=some u∧u.oneCell'=true:=by
 match j with
 | 0=>cases h;exact⟨_,rfl,rfl,rfl⟩
 | j+1=>simp [eInt]at h
theorem insCopy_FS (cs:List (Int×Int×Bool)) (st:List Int) (h1:cs.length≤64) (h2:st.length≤64):Ctr Tryz.prog 35 [.ag (eIns cs st)] (.ag (eIns cs st)):=by
 intro w F vs hF hR
 match vs,hR.1 with
 | [v],_ =>
  have r:=hR.2 0 _ v rfl rfl
  obtain ⟨xs,rfl,q1,q2⟩:∃ xs:Array Value,v=.agg xs∧xs.size=2∧∀ (i:Nat) av u,(eIns cs st)[i]?=some av→xs[i]?=some u→RP F av u:=by
   cases r with|ag l cs a b=>exact ⟨cs,rfl,a,b⟩
  have g:∀ i (h:i<2),xs[i]?=some (xs[i]'(by omega)):=fun i h=>Array.getElem?_eq_getElem (by omega)
  obtain ⟨A1,c1,A2,c2,e1,e2,hI⟩:=ins_of_rp hF (q2 0 _ _ rfl (g 0 zqo)) (q2 1 _ _ rfl (g 1 zqo))
  have ex:xs=#[.slice A1 cs.length c1,.slice A2 st.length c2]:=by
   apply Array.ext (by simp [q1])
   intro i hi hi2
   match i,(show i<2 by omega) with
   | 0,_=>exact e1
   | 1,_=>exact e2
  rw [ex]
  refine (rInsCopy A1 A2 cs st c1 c2 w hI h1 h2).mono fun e w' ⟨B1,B2,d1,d2,he,hb,hI',f1,f2,k1,k2⟩=>?_
  refine ⟨_,newF F w w',he,hb,newF_le hF,newF_fw hF hb,newF_new,.ag _ _ rfl fun i av u a b=>?_⟩
  match i with
  | 0=>cases a;cases b;exact rp_of_rd hI'.1 f1 k1 (fun _=>rfl) eCrs_of
  | 1=>cases a;cases b;exact rp_of_rd hI'.2 f2 k2 (fun _=>rfl) eInt_of
  | i+2=>simp [eIns] at a
end
section
open Go.RowKit
section
variable {P:Program} {C:Cx} {ops:Array Oper} {o:Oper} {rest:List Oper} {σ:St} {Q:Exit→St→Prop} {d:Tmp} {mem:List Bool} {Mc:List (Nat×AO)} {nk0 k:Nat}
def memB (N:Nat) (ops:Array Oper) (mem:List Bool) (Mc:List (Nat×AO)) (k nk:Nat) (t:List (Nat×AV)) (o:Oper):Option (Tmp×Bool) :=
 match o.dst with
 | some d =>
  bif !(mem.getD k false) && Nat.blt d N && msInn nk Mc && tsInn nk (onlyT t (o.looksAt ops))then
   match guardK ops o ⟨onlyT t (o.looksAt ops),Mc,nk⟩with
   | some b=>some (d,b)
   | none=>none
  else none
 | none=>none
theorem memB_of {nk:Nat} {t:List (Nat×AV)} {b:Bool} (h:memB C.N ops mem Mc k nk t o=some (d,b)):mem.getD k false=false∧o.dst=some d∧Nat.blt d C.N=true∧msInn nk Mc=true∧tsInn nk (onlyT t (o.looksAt ops))=true∧guardK ops o ⟨onlyT t (o.looksAt ops),Mc,nk⟩=some b:=by
 unfold memB at h
 split at h
 ·rename_i x hds
  cases hb:!(mem.getD k false) && Nat.blt x C.N && msInn nk Mc && tsInn nk (onlyT t (o.looksAt ops))with
  | false=>rw [hb]at h;cases h
  | true =>
   rw [hb]at h
   simp only [cond_true]at h
   simp only [Bool.and_eq_true,Bool.not_eq_true']at hb
   split at h
   ·rename_i b' hg
    cases h
    exact ⟨hb.1.1.1,hds,hb.1.1.2,hb.1.2,hb.2,hg⟩
   ·cases h
 ·cases h
def wrB(mem:List Bool)(N k:Nat)(o:Oper):Option Tmp :=
 match o.dst,o.guard with
 | some d,none=>bif mem.getD k false && Nat.blt d N then some d else none
 | _,_=>none
theorem wrB_of {N:Nat} (h:wrB mem N k o=some d):mem.getD k false=true∧o.dst=some d∧o.guard=none∧Nat.blt d N=true:=by
 unfold wrB at h
 split at h
 ·rename_i x h1 h2
  cases hb:mem.getD k false && Nat.blt x N with
  | false=>rw [hb]at h;cases h
  | true =>
   rw [hb]at h
   cases h
   simp only [Bool.and_eq_true]at hb
   exact⟨hb.1,h1,h2,hb.2⟩
 ·cases h
end
def onlyM (M:List (Nat×AO)):List Nat→List (Nat×AO)
 | []=>[]
 | x::r =>
  match look x M with
  | some o=>(x,o)::onlyM M r
  | none=>onlyM M r
def memOf(l:List Oper):List Bool:=l.map fun o =>
 match o.op with
 | .buildSlice _ _ _=>true
 | .call { callee:=.builtin .append,.. }=>true
 | _=>false
structure StoD where
 k:Nat
 i:Nat
 j:Nat
 T:TypeId
 n:Nat
 rows:List (List AV)
 l:List AV
def stoV (P:Program) (σ:St):Op→Option StoD
 | .store T x y =>
  match σ.ev x,σ.ev y with
  | some (.pt k i j),some av =>
   match sizeB P T,look k σ.M with
   | some m,some (.row T' n rows)=>bif av.cellB && Nat.beq av.cells.length m && av.cells.all AV.oneB && av.cells.all AV.pu0 then some ⟨k,i,j,T',n,rows,av.cells⟩else none
   | _,_=>none
  | _,_=>none
 | _=>none
section
variable {P:Program} {C:Cx} {ops:Array Oper} {o:Oper} {rest:List Oper} {σ:St} {Q:Exit→St→Prop} {d:Tmp}
theorem WL.sto {x:StoD} {r:List AV} {t:List (Nat×AV)} {M M':List (Nat×AO)} {nk:Nat} (hg:o.guard=none) (hds:o.dst=none) (h:stoV P ⟨t,M,nk⟩ o.op=some x) (hM:remS x.k M=some M') (hr:x.rows[x.i]?=some r) (hj:x.j+x.l.length≤r.length)
  (k:WL P C ops rest ⟨t,(x.k,.row x.T x.n (x.rows.set x.i (putL x.j x.l r)))::M',nk⟩ Q):WL P C ops (o::rest) ⟨t,M,nk⟩ Q:=by
 rw [remS_eq hM] at k
 clear hM
 refine WL.op hg ?_ k
 unfold stoV at h
 split at h
 ·rename_i T x y ho
  split at h
  ·rename_i k i j av hx hy
   split at h
   ·rename_i m T' n rows hm hk
    cases hb:av.cellB && Nat.beq av.cells.length m && av.cells.all AV.oneB && av.cells.all AV.pu0 with
    | false=>rw [hb] at h;cases h
    | true =>
     rw [hb] at h
     simp only [Bool.and_eq_true] at hb
     cases h
     refine wo_rem (WO.store (σ:=⟨t,M,nk⟩) ho hds hm hx hk hy hb.1.1.1 rfl (Nat.eq_of_beq_eq_true hb.1.1.2) hb.1.2 ?_)
     simp only at hr hj
     simp only [AO.put,hr]
     rw [if_pos ⟨hj,hb.2⟩]
   ·cases h
  ·cases h
 ·cases h
def mmV (σ:St):Op→Option (IntKind×Int)
 | .call { callee:=.builtin .min,args:=⟨[x,y]⟩,.. } =>
  match σ.ev x,σ.ev y with
  | some (.sc (.int k m)),some (.sc (.int _ n))=>some (k,if n<m then n else m)
  | _,_=>none
 | .call { callee:=.builtin .max,args:=⟨[x,y]⟩,.. } =>
  match σ.ev x,σ.ev y with
  | some (.sc (.int k m)),some (.sc (.int _ n))=>some (k,if n > m then n else m)
  | _,_=>none
 | _=>none
def isCmp:Op→Bool
 | .binOp .lss _ _ _ _=>true
 | .binOp .leq _ _ _ _=>true
 | .binOp .gtr _ _ _ _=>true
 | .binOp .geq _ _ _ _=>true
 | .binOp .eql _ _ _ _=>true
 | _=>false
def isNeq:Op→Bool
 | .binOp .neq _ _ _ _=>true
 | _=>false
theorem WL.bt {φ:Prop} [i:Decidable φ] (hc:isCmp o.op=true)(hd:dstB C.N o=some d)(h:stepV P σ o.op=some (.sc (.bool (decide φ))))(hφ:φ)(k:WL P C ops rest (σ.put d (.sc (.bool true))) Q):WL P C ops (o::rest) σ Q:=by
 rw [decide_eq_true hφ] at h
 exact WL.vl hd (stepV_of rfl h) k
theorem WL.bf {φ:Prop} [i:Decidable φ] (hc:isCmp o.op=true)(hd:dstB C.N o=some d)(h:stepV P σ o.op=some (.sc (.bool (decide φ))))(hφ:¬ φ)(k:WL P C ops rest (σ.put d (.sc (.bool false))) Q):WL P C ops (o::rest) σ Q:=by
 rw [decide_eq_false hφ] at h
 exact WL.vl hd (stepV_of rfl h) k
theorem WL.nt {φ:Prop} [i:Decidable φ] (hc:isNeq o.op=true)(hd:dstB C.N o=some d)(h:stepV P σ o.op=some (.sc (.bool (!decide φ))))(hφ:¬ φ)(k:WL P C ops rest (σ.put d (.sc (.bool true))) Q):WL P C ops (o::rest) σ Q:=by
 rw [decide_eq_false hφ] at h
 exact WL.vl hd (stepV_of rfl h) k
theorem WL.nf {φ:Prop} [i:Decidable φ] (hc:isNeq o.op=true)(hd:dstB C.N o=some d)(h:stepV P σ o.op=some (.sc (.bool (!decide φ))))(hφ:φ)(k:WL P C ops rest (σ.put d (.sc (.bool false))) Q):WL P C ops (o::rest) σ Q:=by
 rw [decide_eq_true hφ] at h
 exact WL.vl hd (stepV_of rfl h) k
theorem WL.e1 {t t':List (Nat×AV)} {M M':List (Nat×AO)} {nk nk':Nat} (h:opE P C.N t M nk o=some (t',M',nk')) (k:WL P C ops rest ⟨t',M',nk'⟩ Q):WL P C ops (o::rest) ⟨t,M,nk⟩ Q :=
 WL.op (opE_of h).1 (opE_of h).2 k
end
end
section
open Go.RowKit
def dstOk(N:Nat):Option Tmp→Bool
 | some d=>Nat.blt d N
 | none=>true
section
variable {P:Program} {C:Cx} {σ σ':St} {G G':Gh} {a:Act} {w w':World} {o:Oper} {d:Tmp}
theorem dstOk_of {N:Nat} {d:Option Tmp} (h:dstOk N d=true):∀ x,d=some x→x<N:=fun x hx=>by subst hx;exact of_blt h
variable {ops:Array Oper} {rest:List Oper} {Q:Exit→St→Prop}
end
end
section
open Go.RowKit
def Ctg(B:World→View→Prop)(P:Program)(f:FuncId)(args:List AV)(res:AV):Prop :=
 ∀ (w:World)(F:View)(vs:List Value),B w F→(∀ p u,F p=some u→w.cell? p=some u)→RL F args vs →
  Calls P f vs.toArray w fun e w'=>∃ v F',e=.returned v∧Below w.heap.size w w'∧View.le F F'∧(∀ p u,F' p=some u→w'.cell? p=some u)∧(∀ p u,F' p=some u→F p=some u∨w.heap.size≤p.block)∧RP F' res v
def Stab(B:World→View→Prop)(g:Nat):Prop:=(∀ w F,B w F→g≤w.heap.size)∧∀ w w' F F',(∀ i,i<g→w'.heap[i]?=w.heap[i]?)→View.le F F'→B w F→B w' F'
def Holds(B:World→View→Prop)(g:Nat)(C:Cx):Prop:=(∀ w F,Kept C.fp C.w0 w→C.F0.le F→B w F)∧∀ x,C.may x→g≤x
theorem Ctr.g {B:World→View→Prop} {P:Program} {f:FuncId} {args:List AV} {res:AV} (h:Ctr P f args res):Ctg B P f args res:=fun w F vs _ hF hR=>h w F vs hF hR
section
variable {B:World→View→Prop} {gl:Nat} {P:Program} {C:Cx} {ops:Array Oper} {rest:List Oper} {σ σ':St} {G G':Gh} {a:Act} {w w':World} {o:Oper} {d:Tmp} {Q:Exit→St→Prop}
def divV (σ:St):Op→Option (Prop×Int)
 | .binOp .quo _ x y _ =>
  match σ.ev x,σ.ev y with
  | some (.sc (.int .i64 m)),some (.sc (.int .i64 n))=>some ((0≤m∧m≤9223372036854775807)∧0<n,m/n)
  | _,_=>none
 | .binOp .rem _ x y _ =>
  match σ.ev x,σ.ev y with
  | some (.sc (.int .i64 m)),some (.sc (.int .i64 n))=>some ((0≤m∧m≤9223372036854775807)∧0<n,m % n)
  | _,_=>none
 | _=>none
theorem divV_of {φ:Prop} {z:Int} (h:divV σ o.op=some (φ,z))(hφ:φ):WV P C o σ (.sc (.int .i64 z)):=by
 unfold divV at h
 split at h
 ·rename_i T x y Ty ho
  split at h
  ·rename_i m n h1 h2
   cases h
   obtain⟨⟨h3,h4⟩,h5⟩:=hφ
   have e:IntKind.i64.wrap (m/n)=m/n:=I64.wrap (by
    have:=Int.ediv_le_self n h3
    have:=Int.ediv_nonneg h3 (Int.le_of_lt h5)
    unfold I64;omega)
   exact WV.sc fun G a w ok=>by unfold execOp;simp [ho,ok.evs h1,ok.evs h2,eqGuard,binOp,Op.intDiv,Int.tdiv_eq_ediv_of_nonneg h3,show ¬ n=0 by omega,e]
  ·cases h
 ·rename_i T x y Ty ho
  split at h
  ·rename_i m n h1 h2
   cases h
   obtain⟨⟨h3,h4⟩,h5⟩:=hφ
   exact WV.sc fun G a w ok=>by unfold execOp;simp [ho,ok.evs h1,ok.evs h2,eqGuard,binOp,Op.intDiv,Int.tmod_eq_emod_of_nonneg h3,show ¬ n=0 by omega]
  ·cases h
 ·cases h
theorem WL.div {φ:Prop} {z:Int} (hd:dstB C.N o=some d)(h:divV σ o.op=some (φ,z))(hφ:φ)(k:WL P C ops rest (σ.put d (.sc (.int .i64 z))) Q):WL P C ops (o::rest) σ Q:=WL.vl hd (divV_of h hφ) k
end
end
section
open Go.RowKit
def resOne (tmps:Array Value):ResultVar→Sem Value
 | .tmp t=>pure (tmps.getD t undef)
 | .cell a t=>do loadVar t (← asAddr (tmps.getD a undef))
def resV (P:Program)(σ:St):ResultVar→Option AV
 | .tmp t=>look t σ.t
 | .cell t T =>
  match look t σ.t with
  | some (.pt k 0 0) =>
   match look k σ.M,aggB P T with
   | some (.box T' cells),some true =>
    match sizeB P T with
    | some n=>bif Nat.beq cells.length n then some (.ag cells)else none
    | none=>none
   | _,_=>none
  | _=>none
def resL (P:Program)(σ:St):List ResultVar→Option (List AV)
 | []=>some []
 | r::l =>
  match resV P σ r,resL P σ l with
  | some a,some b=>some (a::b)
  | _,_=>none
section
variable {P:Program} {C:Cx} {σ:St} {G:Gh} {a:Act} {w:World}
theorem resV_of (ok:Ok C σ G a w) {r:ResultVar} {av:AV} (h:resV P σ r=some av)(hp:av.pu2=true):∃ v,(resOne a.tmps r).run P w=.ok v w∧RP G.F av v:=by
 cases r with
 | tmp t=>exact⟨a.tmps.getD t undef,rfl,(pu2_bd hp 0).rp (ok.tm t _ h).2.2⟩
 | cell t T =>
  simp only [resV] at h
  split at h
  ·rename_i k ht
   split at h
   ·rename_i T' cells hk hT
    split at h
    ·rename_i n hn
     cases hb:Nat.beq cells.length n with
     | false=>rw [hb] at h;cases h
     | true =>
      rw [hb] at h
      cases h
      obtain⟨p,ep,p1,p2,p3⟩:=(ok.tm t _ ht).2.2.pt_of
      obtain⟨_,_,g3,cs,Φ,g4,g5,_,_,g6⟩:=ok.ob k _ hk
      obtain rfl:=addr_eq p1 p2 p3
      rw [Nat.zero_mul,Nat.zero_add] at ep
      have hpc:cells.all AV.pu0=true:=hp
      refine⟨.agg cs,?_,.ag _ _ g5 fun i av u x y=>(pu0_bd (List.all_eq_true.1 hpc av (List.mem_of_getElem? x)) 0).rp ((g6 i av u x y).r (pu0_own (List.all_eq_true.1 hpc av (List.mem_of_getElem? x))))⟩
      unfold aggB at hT
      cases hu:P.underlying T with
      | none=>simp [hu] at hT
      | some d =>
       have hsz:sizeB P T=some cs.size:=by rw [hn,g5];exact congrArg some (Nat.eq_of_beq_eq_true hb).symm
       have:=results_cell_row (fn:={ (default:Func) with results:=#[.cell t T] }) rfl a.tmps w (G.b k) T' cs (0,0) d ep g4 hu (by rw [hu] at hT;cases d<;>simp_all) hsz
       have e:(results { (default:Func) with results:=#[.cell t T] } a.tmps).run P w=(resOne a.tmps (.cell t T)).run P w:=by
        unfold results resOne
        first|(simp;done)|(simp;rfl)
       rw [← e];exact this
    ·cases h
   ·cases h
  ·cases h
theorem resL_of (ok:Ok C σ G a w):∀ {l:List ResultVar} {avs:List AV},resL P σ l=some avs→avs.all AV.pu2=true→∃ vs:List Value,(l.mapM (resOne a.tmps)).run P w=.ok vs w∧vs.length=avs.length∧∀ (i:Nat)av u,avs[i]?=some av→vs[i]?=some u→RP G.F av u
 | [],avs,h,_=>by cases h;exact ⟨[],rfl,rfl,fun i av u x=>by simp at x⟩
 | r::l,avs,h,hp=>by
  cases h1:resV P σ r with
  | none=>simp only [resL,h1]at h;cases h
  | some x =>
  cases h2:resL P σ l with
  | none=>simp only [resL,h1,h2]at h;cases h
  | some y =>
   simp only [resL,h1,h2,Option.some.injEq]at h
   subst h
   simp only [List.all_cons,Bool.and_eq_true]at hp
   obtain ⟨v,e1,e2⟩:=resV_of ok h1 hp.1
   obtain ⟨vs,f1,f2,f3⟩:=resL_of ok h2 hp.2
   refine ⟨v::vs,by simp [List.mapM_cons,Sem.run_bind,e1,f1,Result.andThen],by simp [f2],fun i av u p q=>?_⟩
   cases i with
   | zero=>cases p;cases q;exact e2
   | succ i=>exact f3 i av u (by simpa using p) (by simpa using q)
theorem finN {fn:Func} {avs:List AV} {res:AV} (h:resL P σ fn.results.toList=some avs)(hp:avs.all AV.pu2=true)(hl:Nat.beq avs.length 1=false)(e:.tu avs=res):QFin P fn C res .ret σ:=by
 refine⟨.inr rfl,fun G a w ok=>?_⟩
 subst e
 obtain⟨vs,e1,e2,e3⟩:=resL_of ok h hp
 refine⟨.tuple vs.toArray,G.F,?_,fun _ _ h=>h,ok.fw,fun _ _ h=>.inl h,.tu _ _ (by simpa using e2) fun i av u x y=>e3 i av u x (by simpa using y)⟩
 have e:results fn a.tmps=(do let vs ← fn.results.mapM (resOne a.tmps);pure (if h:vs.size=1 then vs[0] else .tuple vs)):=rfl
 have hne:¬ vs.toArray.size=1:=by
  intro h1
  have:avs.length=1:=by rw [← e2];simpa using h1
  rw [this] at hl;cases hl
 rw [e,Array.mapM_eq_mapM_toList]
 simp only [Sem.run_bind,Sem.run_map,e1,Result.andThen]
 simp
 intro h1
 exact absurd (by simpa using h1) hne
end
end
section
open Go.RowKit
abbrev Lck:=Int×Int×Int
def lckCells(x:Lck):List Value:=[.int .i64 x.1,.int .i64 x.2.1,.int .i64 x.2.2]
def SayAt (w:World)(B0 b:Nat)(l:List Lck):Prop :=
 ∃ Q d,Blk w b 33 #[.slice Q l.length d]∧w.ownsRow B0 72 3 (.slice Q l.length d) l.length (l.map lckCells).flatten
end
section
open Go.RowKit
def lkIf(ok:Bool)(i c what:Int):List Lck:=if ok then []else [(i,c,what)]
def hasS(s n:Int):Bool:=if s=3 then n != 8 else if s=4 then n == 8 else true
def lackStop (s i:Int)(L:Int→Nat)(x:Stp):List Lck :=
 if pOk s x.1 x.2.1=false then [(i,x.1,1)] else lkIf (okR s x.2.2.1) i x.1 2++(lkIf (okG s x.2.2.2.1) i x.1 3++lkIf (okH s x.2.2.2.2 (L x.1)) i x.1 4)
def lackHead (s i:Int)(e:Ev):List Lck :=
 (if e.val=0 then lkIf (hasS s 6) i 0 6 else [])++((if e.three=true then lkIf (hasS s 5) i 0 5 else [])++(if e.tie=true then lkIf (hasS s 7) i 0 7 else if e.stops.length=0 then lkIf (hasS s 8) i 0 8 else []))
def lackE (s:Int)(p:Pce)(i:Int)(e:Ev):List Lck:=lackHead s i e++e.stops.flatMap (lackStop s i fun c=>longestN p.evs i c)
theorem lkIf_len(ok:Bool)(i c what:Int):(lkIf ok i c what).length≤1:=by unfold lkIf;split<;>simp
theorem lackStop_len (s i:Int)(L:Int→Nat)(x:Stp):(lackStop s i L x).length≤3:=by
 unfold lackStop
 split
 ·simp
 ·have a:=lkIf_len (okR s x.2.2.1) i x.1 2
  have b:=lkIf_len (okG s x.2.2.2.1) i x.1 3
  have c:=lkIf_len (okH s x.2.2.2.2 (L x.1)) i x.1 4
  simp only [List.length_append];omega
theorem flat_len (s i:Int)(L:Int→Nat):∀ l:List Stp,(l.flatMap (lackStop s i L)).length≤3*l.length:=by
 intro l
 induction l with
 | nil=>simp
 | cons x r ih=>have:=lackStop_len s i L x;simp only [List.flatMap_cons,List.length_append,List.length_cons];omega
theorem flat_snoc (s i:Int)(L:Int→Nat)(l:List Stp)(k:Nat)(h:k<l.length):(l.take (k+1)).flatMap (lackStop s i L)=(l.take k).flatMap (lackStop s i L)++lackStop s i L l[k]:=by
 rw [List.take_succ_eq_append_getElem h,List.flatMap_append];simp
structure LkSt (w:World) (P E:Array Value) (i:Int) (l:List Lck) (wx:World):Prop where
 bel:Below w.heap.size w wx
 bp:Blk wx w.heap.size 29 P
 bi:Blk wx (w.heap.size+1) 3 #[.int .i64 i]
 be:Blk wx (w.heap.size+3) 45 E
 say:SayAt wx (w.heap.size+3) (w.heap.size+2) l
def StopsIn(e:Ev):Prop :=
 ∀ k(h:k<e.stops.length),(1≤e.stops[k].1∧e.stops[k].1≤14)∧(0≤e.stops[k].2.1∧e.stops[k].2.1≤18)∧(0≤e.stops[k].2.2.1∧e.stops[k].2.2.1≤3)∧(0≤e.stops[k].2.2.2.1∧e.stops[k].2.2.2.1≤4)∧(0≤e.stops[k].2.2.2.2∧e.stops[k].2.2.2.2≤15)
def lk1 (s i v:Int):List Lck:=if v=0 then lkIf (hasS s 6) i 0 6 else []
def lk2 (s i:Int)(t:Bool):List Lck:=if t=true then lkIf (hasS s 5) i 0 5 else []
def lk3 (s i:Int)(t:Bool)(n:Nat):List Lck:=if t=true then lkIf (hasS s 7) i 0 7 else if n=0 then lkIf (hasS s 8) i 0 8 else []
theorem lk1_len(s i v:Int):(lk1 s i v).length≤1:=by unfold lk1;split;exact lkIf_len _ _ _ _;simp
theorem lk2_len(s i:Int)(t:Bool):(lk2 s i t).length≤1:=by unfold lk2;split;exact lkIf_len _ _ _ _;simp
theorem lk3_len(s i:Int)(t:Bool)(n:Nat):(lk3 s i t n).length≤1:=by
 unfold lk3;split
 ·exact lkIf_len _ _ _ _
 ·split;exact lkIf_len _ _ _ _;simp
theorem lackE_eq (s:Int)(p:Pce)(i:Int)(e:Ev):lackE s p i e=(lk1 s i e.val++(lk2 s i e.three++lk3 s i e.tie e.stops.length))++e.stops.flatMap (lackStop s i fun c=>longestN p.evs i c):=rfl
end
section
open Go.RowKit
theorem pceE_ins {p:Pce} (h:insE p.cs p.st≠0):pceE p=insE p.cs p.st:=if_pos h
theorem pceE_many {p:Pce} (h:¬ insE p.cs p.st≠0)(h1:400<p.evs.length):pceE p=2:=by unfold pceE;rw [if_neg h,if_pos h1]
theorem pceE_evs {p:Pce} (h:¬ insE p.cs p.st≠0)(h1:¬ 400<p.evs.length):pceE p=evsE p 0 p.evs:=by unfold pceE;rw [if_neg h,if_neg h1]
end
section
open Go.RowKit
attribute [local go_sem]mk_bs bs_size bs_toList bs_append bs_extract
attribute [local simp]run_cut run_cut_to run_cut_from run_add_bs
theorem phas_1 (n:Int)(w:World):Calls Tryz.prog 182 #[.agg #[],.int .i64 n] w (Ret (.bool (if (1:Int)=3 then n != 8 else if (1:Int)=4 then n == 8 else true)) w):=by
 go_enter Tryz.func182,Tryz.ntmps182
 go_wp2
 go_ret
 exact Ret.mk' rfl zqb
end
section
open Go.RowKit Go.WideShapes Go.ChangeShapes Go.Joins Go.Deep
section
variable {H:Type} {enc:TypeId×Value→H} {w:World} {base:Nat} {spare:Nat→Bool} {held:Bool}
theorem cellsStop':Tryz.prog.cellsOf 48=5:=by kernel_rfl
theorem cellsEvent:Tryz.prog.cellsOf 45=6:=by kernel_rfl
theorem cellsSign':Tryz.prog.cellsOf 42=3:=by kernel_rfl
theorem cellsStops:Tryz.prog.cellsOf 43=1:=by kernel_rfl
theorem cellsEvents:Tryz.prog.cellsOf 27=1:=by kernel_rfl
theorem cellsPiece:Tryz.prog.cellsOf 29=3:=by kernel_rfl
theorem open_stops {n:Nat} {v:Value} {x:DataW H×List MemPlace} (h:DataW.trod enc Tryz.prog w base spare held n 43 [v]=some x) :
  ∃ (A:Option Addr)(c:Nat)(l:List Stp),v=.slice A l.length c∧l.length≤c∧c≤maxLen∧StpsAt w w.heap.size A l:=by
 rcases open_slice (P:=Tryz.prog) Tryz.underlying43 h with⟨h0,_⟩|⟨a,len,cap,m,n',D,Pl,hcs,hb,hl,hm,hmm,_,hi⟩
 ·obtain rfl:v=.slice none 0 0:=by simpa using h0
  exact⟨none,0,[],rfl,by simp,by simp,Rd.none_⟩
 ·obtain rfl:v=.slice (some a) len cap:=by simpa using hcs
  have hlm:len≤m:=by rw [hmm];split<;>omega
  obtain⟨l,hlen,hq⟩:=list_of (Q:=fun i (x:Stp)=>∀ j u,(stpCells x)[j]?=some u→w.cell? (a.add (i*5+j))=some u) len (fun i hil=>by
   obtain⟨cs',hc,ht'⟩:=hi i zqo
   rw [cellsStop'] at hc
   obtain⟨ys,n2,_,_,hlen,hys,hf⟩:=DataW.trod_struct Tryz.underlying48 ht'
   obtain⟨_,hcl,hat⟩:=World.cells?_some hc
   match cs',hcl with
   | [u0,u1,u2,u3,u4],_ =>
    have f0:DataW.trod enc Tryz.prog w base spare held n2 3 [u0]=ys[0]?:=by simpa [cellsInt] using hf 0 _ rfl
    have f1:DataW.trod enc Tryz.prog w base spare held n2 3 [u1]=ys[1]?:=by simpa [cellsInt] using hf 1 _ rfl
    have f2:DataW.trod enc Tryz.prog w base spare held n2 3 [u2]=ys[2]?:=by simpa [cellsInt] using hf 2 _ rfl
    have f3:DataW.trod enc Tryz.prog w base spare held n2 3 [u3]=ys[3]?:=by simpa [cellsInt] using hf 3 _ rfl
    have f4:DataW.trod enc Tryz.prog w base spare held n2 3 [u4]=ys[4]?:=by simpa [cellsInt] using hf 4 _ rfl
    have gy:∀ j,j<5→∃ y,ys[j]?=some y:=fun j hj=>⟨_,List.getElem?_eq_getElem (by rw [hys];exact hj)⟩
    obtain⟨y0,hy0⟩:=gy 0 zqo
    obtain⟨y1,hy1⟩:=gy 1 zqo
    obtain⟨y2,hy2⟩:=gy 2 zqo
    obtain⟨y3,hy3⟩:=gy 3 zqo
    obtain⟨y4,hy4⟩:=gy 4 zqo
    rw [hy0] at f0;rw [hy1] at f1;rw [hy2] at f2;rw [hy3] at f3;rw [hy4] at f4
    obtain⟨a0,e0,_,_⟩:=DataW.trod_int Tryz.underlying3 f0
    obtain⟨a1,e1,_,_⟩:=DataW.trod_int Tryz.underlying3 f1
    obtain⟨a2,e2,_,_⟩:=DataW.trod_int Tryz.underlying3 f2
    obtain⟨a3,e3,_,_⟩:=DataW.trod_int Tryz.underlying3 f3
    obtain⟨a4,e4,_,_⟩:=DataW.trod_int Tryz.underlying3 f4
    simp only [List.cons.injEq,and_true] at e0 e1 e2 e3 e4
    subst e0 e1 e2 e3 e4
    refine⟨(a0,a1,a2,a3,a4),fun j u hu=>?_⟩
    have hj:j<5:=(List.getElem?_eq_some_iff.1 hu).1
    have:=hat j hj
    rw [add_of_add] at this
    rw [this]
    exact hu)
  refine⟨some a,cap,l,by rw [hlen],by omega,hm,fun hpos=>⟨a,rfl,?_,?_⟩⟩
  ·have hpos':0<l.length:=by simpa using hpos
   have:=World.block_lt_of_cell? w _ (hq 0 hpos' 0 _ rfl)
   rwa [block_of_add] at this
  ·intro k r hr j u hu
   rw [List.getElem?_map] at hr
   cases hk:l[k]? with
   | none=>rw [hk] at hr;cases hr
   | some x =>
    rw [hk] at hr
    obtain rfl:stpCells x=r:=by simpa using hr
    obtain⟨hkl,hkx⟩:=List.getElem?_eq_some_iff.1 hk
    have q:=hq k hkl
    rw [hkx] at q
    exact q j u hu
end
end
end Go.Proofs.YtaeelcfjkhfpkaaGreat
