/- A walk that knows values as trees: an interface compared with nil, a difference of bytes, a call with several answers. -/
import Derived.Test.YthehkchjdkdbiaaGreatDoorChPKq
import Derived.Lib.ByteType
set_option maxHeartbeats 4000000
set_option maxRecDepth 100000
set_option linter.unusedVariables false
set_option linter.unusedSimpArgs false
namespace Go.Proofs.YthehkchjdkdbiaaGreatDoor
theorem Ez {p:Prop}(h:p:=by simpa using hj):p:=h
section
variable {p:Prop}
theorem alP(h:p:=by
 by_cases e:i=hi∧j=hj
 ·rw [if_pos e] at x ⊢
  exact R.un1 h x
 exact ac7):p:=h
theorem alc(h:p:=by
 obtain ⟨q1,q2,_⟩:=atn hb hr
 exact ⟨u,hu,q1,q2⟩):p:=h
theorem ak3(h:p:=by
 unfold Instr.sliceAt
 rw [Sem.run_bind,run_underlying hT w];rfl):p:=h
theorem akZ(h:p:=by
 ·obtain ⟨u,hu,q1,q2⟩:=hcell j av hj
  rw [hu];exact q2.mono hF):p:=h
theorem akW(h:p:=by
 obtain ⟨u,hu,q1,q2⟩:=hcell j av hj
 rw [hu];exact ⟨rfl,q1⟩):p:=h
theorem aaK(h:p:=by
 exact⟨this,by unfold yP;rw [this];rfl⟩):p:=h
theorem akS(h:p:=by
 rw [rhi i (by omega),if_pos (by omega),show σ.nk+(i-nk)-σ.nk+nk=i by omega]):p:=h
theorem TR(h:p:=by
 exact WL.vl hd (tX rfl h) k):p:=h
theorem akO(h:p:=by
 rw [mJ h,fC,List.flatten_append];simp):p:=h
theorem akM(h:p:=by
 obtain ⟨h1,h2,h3⟩:=hM.at_ k o h
 rw [WM k h3] at h1
 exact ⟨h1,h2,h3⟩):p:=h
theorem akL(h:p:=by
 rw [fO,oP,aI this];rfl):p:=h
theorem akF(h:p:=by
 go_enter Tryz.func113,Tryz.ntmps113
 go_wp2
 go_ret
 exact eG.mk' rfl jT):p:=h
theorem akE(h:p:=by
 refine ⟨?_,h1⟩
 rw [← hu w G.F (hB.1 w G.F ok.bel ok.f0),vT,vT];simp):p:=h
theorem akw(h:p:=by
 have e:yg σ.M (.pt k 0 0)=.pt k 0 0:=by simp only [yg,hk]
 rw [e] at hp;cases hp):p:=h
theorem aj8(h:p:=by
 obtain ⟨h3,_,h4⟩:=adW k o h1
 have h2:G.fp (rhoC ks nk σ.nk k) x:=h2
 rw [WM k h4] at h2
 exact ⟨k,_,h4,h3,h2⟩):p:=h
theorem aj3(h:p:=by
 rw [oP,aI (by omega)]
 exact dP (List.all_eq_true.1 hk4 _ (dS _))):p:=h
theorem aaA(h:p:=by
 rw [oP,aI (by omega)];rfl):p:=h
theorem ac9(h:p:=by
 simp only [aY,iw,o9];omega):p:=h
theorem amc(h:p:=by
 show (bif Nat.blt i nk then _ else _)=_
 rw [show Nat.blt i nk=true from uj hi];rfl):p:=h
theorem ama(h:p:=by
 rw [e]
 clear e
 go_enter Tryz.func17,Tryz.ntmps17
 go_wp2
 go_ret
 exact eG.mk' rfl jT):p:=h
theorem aq9(h:p:=by
 refine ⟨v::vs,by simp [List.mapM_cons,Sem.run_bind,e1,f1,Result.andThen],by simp [f2],fun i av u p q=>?_⟩
 cases i with
 | zero=>cases p;cases q;exact e2
 | succ i=>exact f3 i av u Qy rQ):p:=h
theorem aqZ(h:p:=by
 unfold mmV at h
 split at h
 ·rename_i x y ts ho
  split at h
  ·rename_i k m k' n hx hy
   cases h
   exact WV.sc fun G a w ok=>by unfold execOp;simp [ho,resolve,invoke,builtin,ok.evs hx,ok.evs hy,Builtin.min_,Builtin.min2]
  ·cases h
 ·rename_i x y ts ho
  split at h
  ·rename_i k m k' n hx hy
   cases h
   exact WV.sc fun G a w ok=>by unfold execOp;simp [ho,resolve,invoke,builtin,ok.evs hx,ok.evs hy,Builtin.max_,Builtin.max2]
  ·cases h
 ·cases h):p:=h
theorem aqW(h:p:=by
 refine⟨.tuple vs.toArray,G.F,?_,fun _ _ h=>h,ok.fw,fun _ _ h=>.inl h,.tu _ _ (by simpa using e2) fun i av u x y=>e3 i av u x (by simpa using y)⟩
 have e:results fn a.tmps=(do let vs ← fn.results.mapM (tC a.tmps);pure (if h:vs.size=1 then vs[0] else .tuple vs)):=rfl
 have hne:¬ vs.toArray.size=1:=by
  intro h1
  have:bI.length=1:=by rw [← e2];simpa using h1
  rw [this] at hl;cases hl
 rw [e,Array.mapM_eq_mapM_toList]
 simp only [Sem.run_bind,Sem.run_map,e1,Result.andThen]
 simp
 intro h1
 exact absurd rO hne):p:=h
theorem aqT(h:p:=by
 unfold yI at hT
 cases hu:P.underlying T with
 | none=>simp [hu] at hT
 | some d =>
  have hsz:iE P T=some cs.size:=by rw [hn,g5];exact congrArg some (dW hb).symm
  have:=results_cell_row (fn:={ (default:Func) with results:=#[.cell t T] }) rfl a.tmps w (G.b k) T' cs (0,0) d ep g4 hu (by rw [hu] at hT;cases d<;>simp_all) hsz
  have e:(results { (default:Func) with results:=#[.cell t T] } a.tmps).run P w=(tC a.tmps (.cell t T)).run P w:=by
   unfold results tC
   first|(simp;done)|(simp;rfl)
  rw [← e];exact this):p:=h
theorem aqS(h:p:=by
 refine ⟨ok.fw,fun k o h=>?_,fun k o x h1 h2=>?_,fun k o k' o' x h1 h2 h3 h4=>?_,fun k o x p u h1 h2 h3=>?_⟩
 ·obtain ⟨h1,h2,h3⟩:=hM.at_ k o h
  have g:=(ok.ob _ _ h1).2.2
  exact ⟨h3,(oU.ren h2 g).1,(oU.ren h2 g).2⟩
 ·obtain ⟨h3,_,_⟩:=hM.at_ k o h1
  exact (ok.my _ _ x h3 h2).2
 ·obtain ⟨f1,_,f2⟩:=hM.at_ k o h1
  obtain ⟨f3,_,f4⟩:=hM.at_ k' o' h2
  have:=ok.dj _ _ _ _ x f1 f3 h3 h4
  rw [WM k f2,WM k' f4] at this
  have g1:=E5 YI (hat k f2)
  have g2:=E5 YI (hat k' f4)
  rw [this,g2] at g1
  exact (Option.some.inj g1).symm
 ·obtain ⟨f1,_,_⟩:=hM.at_ k o h1
  exact ok.dF _ _ x p u f1 h2 h3):p:=h
end
section
open Go.RowKit
section
variable {P:Program} {C:Cx} {ops:Array Oper} {o:Oper} {rest:List Oper} {σ:St} {Q:Exit→St→Prop} {d:Tmp} {mem:List Bool} {Mc:List (Nat×AO)} {fJ k:Nat}
def Iz (N:Nat) (ops:Array Oper) (mem:List Bool) (Mc:List (Nat×AO)) (k nk:Nat) (t:List (Nat×AV)) (o:Oper):Option (Tmp×Bool) :=
 match o.dst with
 | some d =>
  bif !(mem.getD k false) && Nat.blt d N && JO nk Mc && LX nk (iO t (o.looksAt ops))then
   match qQ ops o ⟨iO t (o.looksAt ops),Mc,nk⟩with
   | some b=>some (d,b)
   | none=>none
  else none
 | none=>none
theorem RD {nk:Nat} {t:List (Nat×AV)} {b:Bool} (h:Iz C.N ops mem Mc k nk t o=some (d,b)):mem.getD k false=false∧o.dst=some d∧Nat.blt d C.N=true∧JO nk Mc=true∧LX nk (iO t (o.looksAt ops))=true∧qQ ops o ⟨iO t (o.looksAt ops),Mc,nk⟩=some b:=by
 unfold Iz at h
 split at h
 ·rename_i x hds
  cases hb:!(mem.getD k false) && Nat.blt x C.N && JO nk Mc && LX nk (iO t (o.looksAt ops))with
  | false=>rw [hb]at h;cases h
  | true =>
   rw [hb]at h
   simp only [cond_true]at h
   simp only [aW,iy]at hb
   split at h
   ·rename_i b' hg
    cases h
    exact ⟨hb.1.1.1,hds,hb.1.1.2,hb.1.2,hb.2,hg⟩
   ·cases h
 ·cases h
def wrB(mem:List Bool)(N k:Nat)(o:Oper):Option Tmp :=
 match o.dst,o.guard with
 | some d,none=>bif mem.getD k false && Nat.blt d N then some d else none
 | _,_=>none
theorem CY {N:Nat} (h:wrB mem N k o=some d):mem.getD k false=true∧o.dst=some d∧o.guard=none∧Nat.blt d N=true:=by
 unfold wrB at h
 split at h
 ·rename_i x h1 h2
  cases hb:mem.getD k false && Nat.blt x N with
  | false=>rw [hb]at h;cases h
  | true =>
   rw [hb]at h
   cases h
   simp only [aW]at hb
   exact⟨hb.1,h1,h2,hb.2⟩
 ·cases h
end
def zn (M:List (Nat×AO)):List Nat→List (Nat×AO)
 | []=>[]
 | x::r =>
  match look x M with
  | some o=>(x,o)::zn M r
  | none=>zn M r
def aAj(l:List Oper):List Bool:=l.map fun o =>
 match o.op with
 | .buildSlice _ _ _=>true
 | .call { callee:=.builtin .append,.. }=>true
 | _=>false
structure auR where
 k:Nat
 i:Nat
 j:Nat
 T:TypeId
 n:Nat
 rows:List (List AV)
 l:List AV
def awI (P:Program) (σ:St):Op→Option auR
 | .store T x y =>
  match σ.ev x,σ.ev y with
  | some (.pt k i j),some av =>
   match iE P T,look k σ.M with
   | some m,some (.row T' n rows)=>bif av.mD && Nat.beq av.cells.length m && av.cells.all AV.yN && av.cells.all AV.Ui then some ⟨k,i,j,T',n,rows,av.cells⟩else none
   | _,_=>none
  | _,_=>none
 | _=>none
section
variable {P:Program} {C:Cx} {ops:Array Oper} {o:Oper} {rest:List Oper} {σ:St} {Q:Exit→St→Prop} {d:Tmp}
theorem WL.yT {x:auR} {r:List AV} {t:List (Nat×AV)} {M M':List (Nat×AO)} {nk:Nat} (hg:o.guard=none) (hds:o.dst=none) (h:awI P ⟨t,M,nk⟩ o.op=some x) (hM:FH x.k M=some M') (hr:x.rows[x.i]?=some r) (hj:x.j+x.l.length≤r.length)
  (k:WL P C ops rest ⟨t,(x.k,.row x.T x.n (x.rows.set x.i (jQ x.j x.l r)))::M',nk⟩ Q):WL P C ops (o::rest) ⟨t,M,nk⟩ Q:=by
 rw [oI hM] at k
 clear hM
 refine WL.op hg ?_ k
 unfold awI at h
 split at h
 ·rename_i T x y ho
  split at h
  ·rename_i k i j av hx hy
   split at h
   ·rename_i m T' n rows hm hk
    cases hb:av.mD && Nat.beq av.cells.length m && av.cells.all AV.yN && av.cells.all AV.Ui with
    | false=>rw [hb] at h;cases h
    | true =>
     rw [hb] at h
     simp only [aW] at hb
     cases h
     refine CX (WO.store (σ:=⟨t,M,nk⟩) ho hds hm hx hk hy hb.1.1.1 rfl (dW hb.1.1.2) hb.1.2 ?_)
     simp only at hr hj
     simp only [AO.put,hr]
     rw [if_pos ⟨hj,hb.2⟩]
   ·cases h
  ·cases h
 ·cases h
def mmV (σ:St):Op→Option (IntKind×Int)
 | .call { callee:=.builtin .min,args:=⟨[x,y]⟩,.. } =>
  match σ.ev x,σ.ev y with
  | some (.sc (.int k m)),some (.sc (.int _ n))=>some (k,if n<m then n else m)
  | _,_=>none
 | .call { callee:=.builtin .max,args:=⟨[x,y]⟩,.. } =>
  match σ.ev x,σ.ev y with
  | some (.sc (.int k m)),some (.sc (.int _ n))=>some (k,if n > m then n else m)
  | _,_=>none
 | _=>none
theorem WL.mm {k:IntKind} {z z':Int} (hd:lK C.N o=some d)(h:mmV σ o.op=some (k,z))(hz:z=z')(K:WL P C ops rest (σ.put d (.sc (.int k z'))) Q):WL P C ops (o::rest) σ Q:=by
 subst hz
 refine WL.vl hd ?_ K
 exact aqZ
def abG:Op→Bool
 | .binOp .lss _ _ _ _=>true
 | .binOp .leq _ _ _ _=>true
 | .binOp .gtr _ _ _ _=>true
 | .binOp .geq _ _ _ _=>true
 | .binOp .eql _ _ _ _=>true
 | _=>false
def apE:Op→Bool
 | .binOp .neq _ _ _ _=>true
 | _=>false
theorem WL.bt {φ:Prop} [i:Decidable φ] (hc:abG o.op=true)(hd:lK C.N o=some d)(h:zD P σ o.op=some (.sc (.bool (decide φ))))(hφ:φ)(k:WL P C ops rest (σ.put d (.sc (.bool true))) Q):WL P C ops (o::rest) σ Q:=by
 rw [dG hφ] at h
 exact TR
theorem WL.bf {φ:Prop} [i:Decidable φ] (hc:abG o.op=true)(hd:lK C.N o=some d)(h:zD P σ o.op=some (.sc (.bool (decide φ))))(hφ:¬ φ)(k:WL P C ops rest (σ.put d (.sc (.bool false))) Q):WL P C ops (o::rest) σ Q:=by
 rw [cZ hφ] at h
 exact TR
theorem WL.nt {φ:Prop} [i:Decidable φ] (hc:apE o.op=true)(hd:lK C.N o=some d)(h:zD P σ o.op=some (.sc (.bool (!decide φ))))(hφ:¬ φ)(k:WL P C ops rest (σ.put d (.sc (.bool true))) Q):WL P C ops (o::rest) σ Q:=by
 rw [cZ hφ] at h
 exact TR
theorem WL.nf {φ:Prop} [i:Decidable φ] (hc:apE o.op=true)(hd:lK C.N o=some d)(h:zD P σ o.op=some (.sc (.bool (!decide φ))))(hφ:φ)(k:WL P C ops rest (σ.put d (.sc (.bool false))) Q):WL P C ops (o::rest) σ Q:=by
 rw [dG hφ] at h
 exact TR
theorem WL.e1 {t t':List (Nat×AV)} {M M':List (Nat×AO)} {nk dh:Nat} (h:opE P C.N t M nk o=some (t',M',dh)) (k:WL P C ops rest ⟨t',M',dh⟩ Q):WL P C ops (o::rest) ⟨t,M,nk⟩ Q :=
 WL.op (Zt h).1 (Zt h).2 k
def cutV (P:Program) (σ:St):Op→Option (List UInt8×Int×Int)
 | .slice T x (some y) (some z) none =>
  match P.underlying T,σ.ev x,σ.ev y,σ.ev z with
  | some .string,some (.sc (.string ⟨⟨s⟩⟩)),some (.sc (.int _ i)),some (.sc (.int _ j))=>some (s,i,j)
  | _,_,_,_=>none
 | .slice T x none (some z) none =>
  match P.underlying T,σ.ev x,σ.ev z with
  | some .string,some (.sc (.string ⟨⟨s⟩⟩)),some (.sc (.int _ j))=>some (s,0,j)
  | _,_,_=>none
 | .slice T x (some y) none none =>
  match P.underlying T,σ.ev x,σ.ev y with
  | some .string,some (.sc (.string ⟨⟨s⟩⟩)),some (.sc (.int _ i))=>some (s,i,s.length)
  | _,_,_=>none
 | _=>none
theorem QY {w:World} {T:TypeId} {s t:List UInt8} {lo hi:Option Value} (hT:P.underlying T=some .string)(h:(Instr.slice T (.string (bs s)) lo hi none).run P w=.ok (.string (bs t)) w) :
  ((Instr.sliceAt T (.string (bs s)) lo hi none).run P w).andThen (fun a w'=>Sem.run P (pure (Next.value a)) w')=.ok (.value (.string (bs t))) w:=by
 have:(Instr.sliceAt T (.string (bs s)) lo hi none).run P w=(Instr.slice T (.string (bs s)) lo hi none).run P w:=by
  exact ak3
 rw [this,h];rfl
theorem zZ {s:List UInt8} {i j:Int} (h:cutV P σ o.op=some (s,i,j))(hb:0≤i∧i≤j∧j≤s.length):WV P C o σ (.sc (.string (bs (cut s i j)))):=by
 unfold cutV at h
 split at h
 ·rename_i T x y z ho
  split at h
  ·rename_i s' k i' k' j' hT hx hy hz
   cases h
   refine WV.sc fun G a w ok=>?_
   unfold execOp
   simp only [ho,oM,L9,ok.evs hx,ok.evs hy,ok.evs hz,Sem.run_bind]
   have:=mV (P:=P) w T s k k' i j hT hb.1 hb.2.1 hb.2.2
   exact QY hT this
  ·cases h
 ·rename_i T x z ho
  split at h
  ·rename_i s' k' j' hT hx hz
   cases h
   refine WV.sc fun G a w ok=>?_
   unfold execOp
   simp only [ho,oM,L9,ok.evs hx,ok.evs hz,Sem.run_bind]
   have:=iK (P:=P) w T s k' j hT au hb.2.2
   exact QY hT this
  ·cases h
 ·rename_i T x y ho
  split at h
  ·rename_i s' k i' hT hx hy
   cases h
   refine WV.sc fun G a w ok=>?_
   unfold execOp
   simp only [ho,oM,L9,ok.evs hx,ok.evs hy,Sem.run_bind]
   have:=eF (P:=P) w T s k i hT hb.1 hb.2.1
   have e:cut s i s.length=s.drop i.toNat:=by unfold cut;rw [wS (by simp)]
   rw [e]
   exact QY hT this
  ·cases h
 ·cases h
theorem WL.cut {s:List UInt8} {i j:Int} (hd:lK C.N o=some d)(h:cutV P σ o.op=some (s,i,j))(hb:0≤i∧i≤j∧j≤s.length)(k:WL P C ops rest (σ.put d (.sc (.string (bs (cut s i j))))) Q):WL P C ops (o::rest) σ Q :=
 WL.vl hd (zZ h hb) k
end
def afR (T e b:Nat)(φ:Nat→Prop)(l:List UInt8)(v:Value)(w:World):Ending→World→Prop:=fun r w' =>
 r=.returned v∧Kept φ w w'∧Ji w' T e b (fun x=>φ x∨(w.heap.size≤x∧x<w'.heap.size)) l
def arH (P:Program) (f:FuncId) (T e:TypeId):Prop:=∀ (w:World) (b:Nat) (φ:Nat→Prop) (l s:List UInt8),φ b→Ji w T e b φ l→l.length+s.length≤1000000000 →
 Calls P f #[.pointer (some ⟨b,0,none⟩),.string (bs s)] w (afR T e b φ (l++s) (.tuple #[.int .i64 s.length,.nilIface]) w)
def arG (P:Program) (f:FuncId) (T e:TypeId):Prop:=∀ (w:World) (b:Nat) (φ:Nat→Prop) (l:List UInt8),φ b→Ji w T e b φ l→l≠[] →
 Calls P f #[.pointer (some ⟨b,0,none⟩)] w (afR T e b φ l (.string (bs l)) w)
def UE(N:Nat):Option Tmp→Bool
 | some d=>Nat.blt d N
 | none=>true
section
variable {P:Program} {C:Cx} {σ σ':St} {G G':Gh} {a:Act} {w w':World} {o:Oper} {d:Tmp}
theorem Jt {N:Nat} {d:Option Tmp} (h:UE N d=true):∀ x,d=some x→x<N:=fun x hx=>by subst hx;exact dP h
theorem Ok.aa3 (ok:Ok C σ G a w) {k:Nat} {T e:TypeId} {l l':List UInt8} (hk:look k σ.M=some (.xq T e l)) (hkept:Kept (G.fp k) w w')
  (hb:Ji w' T e (G.b k) (fun x=>G.fp k x∨(w.heap.size≤x∧x<w'.heap.size)) l'):∃ G',Ok C (σ.upd k (.xq T e l')) G' a w':=by
 have hob:=ok.ob k _ hk
 have hle:∀ nk,G.le { G with fp:=fun i x=>if i=k then G.fp k x∨(w.heap.size≤x∧x<w'.heap.size) else G.fp i x } nk:=fun nk=>⟨fun _ _ h=>h,fun _ _=>rfl,fun _ _=>rfl,fun _ _=>rfl⟩
 have hfo:∀ i,i≠k→({ G with fp:=fun i x=>if i=k then G.fp k x∨(w.heap.size≤x∧x<w'.heap.size) else G.fp i x }:Gh).fp i=G.fp i:=fun i hi=>by funext x;exact if_neg hi
 have hl:∀ k' o,look k' (σ.upd k (.xq T e l')).M=some o→(k'=k∧o=.xq T e l')∨(k'≠k∧look k' σ.M=some o):=fun k' o hx=>by
  by_cases e:k'=k
  ·subst e
   rw [show look k' (σ.upd k' (.xq T _ l')).M=some _ from aA] at hx
   cases hx
   exact NG
  ·rw [show look k' (σ.upd k (.xq T _ l')).M=look k' σ.M from aj e] at hx
   exact .inr ⟨e,hx⟩
 have fpx:∀ k' o x,look k' (σ.upd k (.xq T e l')).M=some o→(if k'=k then G.fp k x∨(w.heap.size≤x∧x<w'.heap.size) else G.fp k' x)→(∃ o',look k' σ.M=some o'∧G.fp k' x)∨(k'=k∧w.heap.size≤x∧x<w'.heap.size):=fun k' o x h1 h2=>by
  rcases hl k' o h1 with⟨rfl,_⟩|⟨e,y⟩
  ·rw [if_pos rfl] at h2
   rcases h2 with h2|h2
   ·exact .inl ⟨_,hk,h2⟩
   ·exact .inr ⟨rfl,h2⟩
  ·rw [if_neg e] at h2
   exact .inl ⟨o,y,h2⟩
 have hF:∀ p u,G.F p=some u→w'.heap[p.block]?=w.heap[p.block]?:=fun p u h=>hkept.block _ (aN (ok.fw p u h)) fun hx=>ok.dF k _ _ p u hk hx h rfl
 refine ⟨{ G with fp:=fun i x=>if i=k then G.fp k x∨(w.heap.size≤x∧x<w'.heap.size) else G.fp i x },ok.sz,ok.df,fun i av x=>⟨(ok.tm i av x).1,(ok.tm i av x).2.1,(ok.tm i av x).2.2.mono (hle σ.nk) (ok.tm i av x).2.1⟩,ok.bel.on hkept fun x hx=>(ok.my k _ x hk hx).1,
  fun p u h=>(World.cell?_of_block (hF p u h)).trans (ok.fw p u h),ok.f0,ok.f1,?_,?_,?_,?_⟩
 ·intro k' o x
  rcases hl k' o x with⟨rfl,rfl⟩|⟨e,y⟩
  ·refine ⟨hob.1,trivial,?_⟩
   refine ⟨?_,?_⟩
   ·show (if k'=k' then G.fp k' (G.b k')∨_ else G.fp k' (G.b k'))
    rw [if_pos rfl];exact .inl hob.2.2.1
   ·show Ji w' T _ (G.b k') (fun x=>if k'=k' then G.fp k' x∨(w.heap.size≤x∧x<w'.heap.size) else G.fp k' x) l'
    rw [show (fun x=>if k'=k' then G.fp k' x∨(w.heap.size≤x∧x<w'.heap.size) else G.fp k' x)=(fun x=>G.fp k' x∨(w.heap.size≤x∧x<w'.heap.size)) from funext fun x=>if_pos rfl]
    exact hb
  ·obtain ⟨h1,h2,h3⟩:=ok.ob k' o y
   exact ⟨h1,h2,h3.keep (hle σ.nk) h1 h2 (hfo k' e) fun x hx=>hkept.block x (ok.my k' o x y hx).2 fun hx2=>e (ok.dj k' o k _ x y hk hx hx2)⟩
 ·intro k' o x h1 h2
  rcases fpx k' o x h1 h2 with⟨o',y,h3⟩|⟨_,h3,h4⟩
  ·exact ⟨(ok.my k' o' x y h3).1,lH (ok.my k' o' x y h3).2 hkept.size⟩
  ·exact ⟨.inl (jV ok.bel.size h3),h4⟩
 ·intro k1 o1 k2 o2 x h1 h2 h3 h4
  rcases fpx k1 o1 x h1 h3 with⟨o1',y1,h5⟩|⟨e1,h5,_⟩
  ·rcases fpx k2 o2 x h2 h4 with⟨o2',y2,h6⟩|⟨e2,h6,_⟩
   ·exact ok.dj k1 o1' k2 o2' x y1 y2 h5 h6
   ·have:=(ok.my k1 o1' x y1 h5).2;omega
  ·rcases fpx k2 o2 x h2 h4 with⟨o2',y2,h6⟩|⟨e2,h6,_⟩
   ·have:=(ok.my k2 o2' x y2 h6).2;omega
   ·rw [e1,e2]
 ·intro k1 o1 x p u h1 h2 h3
  rcases fpx k1 o1 x h1 h2 with⟨o1',y1,h5⟩|⟨_,h5,_⟩
  ·exact ok.dF k1 o1' x p u y1 h5 h3
  ·have:=aN (ok.fw p u h3);omega
theorem Tr.xq (k:Nat) {T:TypeId} (e:TypeId) (hk:look k σ.M=some (.box T [.sc (.pointer none),.sc (.slice none 0 0)])):Tr C σ (σ.upd k (.xq T e [])):=fun G a w ok=>by
 obtain ⟨g1,g2,g3,cs,Φ,g4,g5,g6,g7,g8⟩:=ok.ob k _ hk
 have hs:cs.size=2:=g5
 have e0:cs[0]=.pointer none:=((g8 0 _ _ rfl (uh (by omega))).r rfl).fB
 have e1:cs[1]=.slice none 0 0:=((g8 1 _ _ rfl (uh (by omega))).r rfl).fB
 have ecs:cs=#[.pointer none,.slice none 0 0]:=by
  apply Array.ext (by simp [hs])
  intro i h1 h2
  match i,(show i<2 by omega)with
  | 0,_=>exact e0
  | 1,_=>exact e1
 subst ecs
 exact ⟨G,ok.ae8 hk ⟨g1,trivial,g3,.pointer none,.slice none 0 0,.inl rfl,g4,World.ownsRowF_nil _ _ _ _,fun g hg=>by cases hg⟩⟩
theorem WO.axY {f:FuncId} {k:Nat} {x y:Operand} {ts:Array TypeId} {T e:TypeId} {l s l':List UInt8} (ho:o.op=.call { callee:=.value (.func f),args:=#[x,y],argTypes:=ts }) (hc:∀ vs w,(callFunc f vs).run P w=.ok (.enter f vs) w)
  (hx:σ.ev x=some (.pt k 0 0)) (hk:look k σ.M=some (.xq T e l)) (hy:σ.ev y=some (.sc (.string (bs s)))) (hd:UE C.N o.dst=true) (h:arH P f T e) (hl:l.length+s.length≤1000000000) (hl':l++s=l') :
  WO P C o σ ((σ.upd k (.xq T e l')).set o.dst (.tu [.sc (.int .i64 s.length),.sc .nilIface])):=by
 intro G a w ok N Q' hN
 subst hl'
 obtain ⟨p,ep,p1,p2,p3⟩:=(ok.nO hx).2.lV
 obtain ⟨h1,h2⟩:=(ok.ob k _ hk).2.2
 obtain rfl:=addr_eq p1 p2 p3
 rw [zI] at ep
 refine lJ ?_
 have ev:a.eval (.func f)=.func (.func f) #[] #[]:=rfl
 have e3:(#[]++(#[x,y]:Array Operand).map a.eval++#[]:Array Value)=#[.pointer (some ⟨G.b k,0,none⟩),.string (bs s)]:=by simp [ep,ok.evs hy]
 simp only [ho,resolve,ev,Deferred.ofValue,invoke,Sem.run_bind,Sem.run_pure,Result.andThen_ok,hc,Oper.upon,e3]
 refine (h w (G.b k) (G.fp k) l s h1 h2 hl).mono fun r w1 ⟨he,hkept,hb⟩=>?_
 subst he
 obtain ⟨G',ok'⟩:=ok.aa3 hk hkept hb
 exact hN _ _ _ (ok'.set (.tu _ _ rfl fun i av u p q=>by
  match i with
  | 0=>cases p;cases q;exact .pu _ _ (.sc _)
  | 1=>cases p;cases q;exact .pu _ _ (.sc _)
  | i+2=>simp at p) (.tu _ fun i x hx=>by
  match i with
  | 0=>cases hx;exact .sc _
  | 1=>cases hx;exact .sc _
  | i+2=>simp at hx) (Jt hd))
theorem WO.axX {f:FuncId} {k:Nat} {x:Operand} {ts:Array TypeId} {T e:TypeId} {l:List UInt8} (ho:o.op=.call { callee:=.value (.func f),args:=#[x],argTypes:=ts }) (hc:∀ vs w,(callFunc f vs).run P w=.ok (.enter f vs) w)
  (hx:σ.ev x=some (.pt k 0 0)) (hk:look k σ.M=some (.xq T e l)) (hd:UE C.N o.dst=true) (h:arG P f T e) (hl:l≠[]) :
  WO P C o σ ((σ.upd k (.xq T e l)).set o.dst (.sc (.string (bs l)))):=by
 intro G a w ok N Q' hN
 obtain ⟨p,ep,p1,p2,p3⟩:=(ok.nO hx).2.lV
 obtain ⟨h1,h2⟩:=(ok.ob k _ hk).2.2
 obtain rfl:=addr_eq p1 p2 p3
 rw [zI] at ep
 refine lJ ?_
 have ev:a.eval (.func f)=.func (.func f) #[] #[]:=rfl
 have e3:(#[]++(#[x]:Array Operand).map a.eval++#[]:Array Value)=#[.pointer (some ⟨G.b k,0,none⟩)]:=by simp [ep]
 simp only [ho,resolve,ev,Deferred.ofValue,invoke,Sem.run_bind,Sem.run_pure,Result.andThen_ok,hc,Oper.upon,e3]
 refine (h w (G.b k) (G.fp k) l h1 h2 hl).mono fun r w1 ⟨he,hkept,hb⟩=>?_
 subst he
 obtain ⟨G',ok'⟩:=ok.aa3 hk hkept hb
 exact hN _ _ _ (ok'.set (.pu _ _ (.sc _)) (.sc _) (Jt hd))
def bwV (σ:St) (f:FuncId):Op→Option (Nat×TypeId×TypeId×List UInt8×List UInt8)
 | .call { callee:=.value (.func g),args:=⟨[x,y]⟩,argTypes:=_ } =>
  match σ.ev x,σ.ev y with
  | some (.pt k 0 0),some (.sc (.string ⟨⟨s⟩⟩)) =>
   match look k σ.M with
   | some (.xq T e l)=>bif Nat.beq f g then some (k,T,e,l,s)else none
   | _=>none
  | _,_=>none
 | _=>none
def bsV (σ:St)(f:FuncId):Op→Option (Nat×TypeId×TypeId×List UInt8)
 | .call { callee:=.value (.func g),args:=⟨[x]⟩,argTypes:=_ } =>
  match σ.ev x with
  | some (.pt k 0 0) =>
   match look k σ.M with
   | some (.xq T e l)=>bif Nat.beq f g then some (k,T,e,l)else none
   | _=>none
  | _=>none
 | _=>none
variable {ops:Array Oper} {rest:List Oper} {Q:Exit→St→Prop}
theorem WL.bw {f:FuncId} {k:Nat} {T e:TypeId} {l s l':List UInt8} {t:List (Nat×AV)} {M M':List (Nat×AO)} {nk:Nat} (hd:lK C.N o=some d) (hv:bwV ⟨t,M,nk⟩ f o.op=some (k,T,e,l,s)) (hM:FH k M=some M')
  (hc:∀ vs w,(callFunc f vs).run P w=.ok (.enter f vs) w) (h:arH P f T e) (hl:l.length+s.length≤1000000000) (hl':l++s=l')
  (K:WL P C ops rest ⟨(d,.tu [.sc (.int .i64 s.length),.sc .nilIface])::t,(k,.xq T e l')::M',nk⟩ Q):WL P C ops (o::rest) ⟨t,M,nk⟩ Q:=by
 rw [oI hM] at K
 clear hM
 obtain ⟨hg,hds,hdb⟩:=kN hd
 refine WL.op hg ?_ K
 unfold bwV at hv
 split at hv
 ·rename_i g x y ts ho
  split at hv
  ·rename_i k' s' hx hy
   split at hv
   ·rename_i T' e' l2 hk
    cases hb:Nat.beq f g with
    | false=>rw [hb] at hv;cases hv
    | true =>
     rw [hb] at hv
     cases hv
     obtain rfl:=dW hb
     have:=WO.axY (σ:=⟨t,M,nk⟩) (s:=s) ho hc hx hk hy (by rw [hds];exact hdb) h hl hl'
     rw [hds] at this
     exact CX this
   ·cases hv
  ·cases hv
 ·cases hv
theorem WL.bs {f:FuncId} {k:Nat} {T e:TypeId} {l:List UInt8} {t:List (Nat×AV)} {M M':List (Nat×AO)} {nk:Nat} (hd:lK C.N o=some d) (hv:bsV ⟨t,M,nk⟩ f o.op=some (k,T,e,l)) (hM:FH k M=some M')
  (hc:∀ vs w,(callFunc f vs).run P w=.ok (.enter f vs) w) (h:arG P f T e) (hl:l≠[])
  (K:WL P C ops rest ⟨(d,.sc (.string (bs l)))::t,(k,.xq T e l)::M',nk⟩ Q):WL P C ops (o::rest) ⟨t,M,nk⟩ Q:=by
 rw [oI hM] at K
 clear hM
 obtain ⟨hg,hds,hdb⟩:=kN hd
 refine WL.op hg ?_ K
 unfold bsV at hv
 split at hv
 ·rename_i g x ts ho
  split at hv
  ·rename_i k' hx
   split at hv
   ·rename_i T' e' l2 hk
    cases hb:Nat.beq f g with
    | false=>rw [hb] at hv;cases hv
    | true =>
     rw [hb] at hv
     cases hv
     obtain rfl:=dW hb
     have:=WO.axX (σ:=⟨t,M,nk⟩) ho hc hx hk (by rw [hds];exact hdb) h hl
     rw [hds] at this
     exact CX this
   ·cases hv
  ·cases hv
 ·cases hv
end
def kJ(B:World→View→Prop)(P:Program)(f:FuncId)(args:List AV)(res:AV):Prop :=
 ∀ (w:World)(F:View)(vs:List Value),B w F→(∀ p u,F p=some u→w.cell? p=some u)→RL F args vs →
  Calls P f vs.toArray w fun e w'=>∃ v F',e=.returned v∧Below w.heap.size w w'∧View.le F F'∧(∀ p u,F' p=some u→w'.cell? p=some u)∧(∀ p u,F' p=some u→F p=some u∨w.heap.size≤p.block)∧RP F' res v
def QJ(B:World→View→Prop)(g:Nat):Prop:=(∀ w F,B w F→g≤w.heap.size)∧∀ w w' F F',(∀ i,i<g→w'.heap[i]?=w.heap[i]?)→View.le F F'→B w F→B w' F'
def Holds(B:World→View→Prop)(g:Nat)(C:Cx):Prop:=(∀ w F,Kept C.fp C.w0 w→C.F0.le F→B w F)∧∀ x,C.may x→g≤x
theorem aU.g {B:World→View→Prop} {P:Program} {f:FuncId} {args:List AV} {res:AV} (h:aU P f args res):kJ B P f args res:=fun w F vs _ hF hR=>h w F vs hF hR
theorem kJ.intro {B:World→View→Prop} {g:Nat} (hS:QJ B g) {P:Program} {f:FuncId} {fn:Func} {c:Code} {args:List AV} {res:AV} (hf:P.funcs[f]?=some fn) (hb:fn.body=some c) {N:Nat} (hN:fn.ntmps=N) (hn:args.length≤N) (hp:∀ (i:Nat) av,args[i]?=some av→Bd 0 av)
  (h:∀ w0 F0,Holds B g ⟨w0,F0,N,fun _=>False,0,G0,[]⟩→W P ⟨w0,F0,N,fun _=>False,0,G0,[]⟩ c (St.init args) (Um P fn ⟨w0,F0,N,fun _=>False,0,G0,[]⟩ res)):kJ B P f args res:=by
 intro w F vs hB hF hR
 subst hN
 refine calls_of_wp hf hb ?_
 have hsz:vs.toArray.size=args.length:=by simpa using hR.1
 have h1:=h w F ⟨fun w2 F2 k1 k2=>hS.2 w w2 F F2 (fun i hi=>k1.block i (lH hi (hS.1 w F hB)) fun h=>h) k2 hB,fun x hx=>hx.elim (fun h=>jV (hS.1 w F hB) h) fun h=>h.elim⟩ ⟨F,fun _=>0,fun _=>0,fun _=>undef,fun _ _=>False⟩ { tmps:=vs.toArray++Array.replicate (fn.ntmps - vs.toArray.size) undef,defers:=[] } w
  ⟨by simp;have:=hR.1;omega,⟨rfl,bJ _,fun k hk=>absurd hk (Ic k)⟩,fun i av hx=>by
   obtain ⟨_,h2⟩:=kZ args 0 i av hx
   simp only [F7] at h2
   have hi:i < args.length:=(List.getElem?_eq_some_iff.1 h2).1
   have hv:i < vs.length:=by rw [hR.1];exact hi
   refine ⟨by show i < fn.ntmps;omega,hp i av h2,.pu _ _ (hR.2 i av _ h2 ?_)⟩
   simp [dM,Es,hv],
   Kept.refl _ _,hF,fun _ _ h=>h,fun _ _ h=>.inl h,(fun k o h=>by cases h),(fun k o x h=>by cases h),(fun k o k' o' x h=>by cases h),(fun k o x p u h=>by cases h)⟩
 refine wp_mono h1 fun e a w' ⟨σ,G,⟨he,hfin⟩,ok⟩=>?_
 obtain ⟨v,F',hr,hle,hfw,hnew,hres⟩:=hfin G a w' ok
 rcases he with rfl|rfl
 ·exact ac6
 ·exact ac6
section
variable {B:World→View→Prop} {gl:Nat} {P:Program} {C:Cx} {ops:Array Oper} {rest:List Oper} {σ σ':St} {G G':Gh} {a:Act} {w w':World} {o:Oper} {d:Tmp} {Q:Exit→St→Prop}
theorem WV.eH (hB:Holds B gl C) {f:FuncId} {xs:Array Operand} {ts:Array TypeId} {args:List AV} {res:AV} (ho:o.op=.call { callee:=.value (.func f),args:=xs,argTypes:=ts }) (hc:∀ vs w,(callFunc f vs).run P w=.ok (.enter f vs) w)
  (hx:σ.evs xs.toList=some args) (hp:args.all AV.pu2=true) (h:kJ B P f args res):WV P C o σ res:=by
 intro G a w ok N Q' hN
 obtain ⟨e1,e2⟩:=ok.evl hx
 have pG:=h w G.F (xs.toList.map a.eval) (hB.1 w G.F ok.bel ok.f0) ok.fw ⟨e1,fun i av u p q=>(oC (List.all_eq_true.1 hp av (cO p)) 0).rp (e2 i av u p q)⟩
 refine lJ ?_
 have ev:a.eval (.func f)=.func (.func f) #[] #[]:=rfl
 have e3:(#[]++xs.map a.eval++#[]:Array Value)=(xs.toList.map a.eval).toArray:=by apply Bz;simp
 simp only [ho,resolve,ev,Deferred.ofValue,invoke,Sem.run_bind,Sem.run_pure,Result.andThen_ok,hc,Oper.upon,e3]
 refine pG.mono fun e w1 ⟨v,F',he,hb,h1,h2,h3,h4⟩=>?_
 subst he
 exact hN v _ w1 (fun Dk a'' Fj=>Fj.called hb h1 h2 h3) (.pu _ _ h4) (h4.bd _)
def divV (σ:St):Op→Option (Prop×Int)
 | .binOp .quo _ x y _ =>
  match σ.ev x,σ.ev y with
  | some (.sc (.int .i64 m)),some (.sc (.int .i64 n))=>some ((0≤m∧m≤9223372036854775807)∧0<n,m/n)
  | _,_=>none
 | .binOp .rem _ x y _ =>
  match σ.ev x,σ.ev y with
  | some (.sc (.int .i64 m)),some (.sc (.int .i64 n))=>some ((0≤m∧m≤9223372036854775807)∧0<n,m % n)
  | _,_=>none
 | _=>none
theorem amV {φ:Prop} {z:Int} (h:divV σ o.op=some (φ,z))(hφ:φ):WV P C o σ (.sc (.int .i64 z)):=by
 unfold divV at h
 split at h
 ·rename_i T x y Ty ho
  split at h
  ·rename_i m n h1 h2
   cases h
   obtain⟨⟨h3,h4⟩,h5⟩:=hφ
   have e:IntKind.i64.wrap (m/n)=m/n:=I64.wrap (by
    have:=Int.ediv_le_self n h3
    have:=Int.ediv_nonneg h3 (Int.le_of_lt h5)
    unfold I64;omega)
   exact WV.sc fun G a w ok=>by unfold execOp;simp [ho,ok.evs h1,ok.evs h2,eqGuard,binOp,Op.intDiv,Int.tdiv_eq_ediv_of_nonneg h3,show ¬ n=0 by omega,e]
  ·cases h
 ·rename_i T x y Ty ho
  split at h
  ·rename_i m n h1 h2
   cases h
   obtain⟨⟨h3,h4⟩,h5⟩:=hφ
   exact WV.sc fun G a w ok=>by unfold execOp;simp [ho,ok.evs h1,ok.evs h2,eqGuard,binOp,Op.intDiv,Int.tmod_eq_emod_of_nonneg h3,show ¬ n=0 by omega]
  ·cases h
 ·cases h
theorem WL.div {φ:Prop} {z:Int} (hd:lK C.N o=some d)(h:divV σ o.op=some (φ,z))(hφ:φ)(k:WL P C ops rest (σ.put d (.sc (.int .i64 z))) Q):WL P C ops (o::rest) σ Q:=WL.vl hd (amV h hφ) k
def as6 (σ:St):Op→Option (Prop×Int)
 | .unOp .neg _ x =>
  match σ.ev x with
  | some (.sc (.int .i64 m))=>some (I64 (0-m),0-m)
  | _=>none
 | _=>none
theorem anW {φ:Prop} {z:Int} (h:as6 σ o.op=some (φ,z))(hφ:φ):WV P C o σ (.sc (.int .i64 z)):=by
 unfold as6 at h
 split at h
 ·rename_i T x ho
  split at h
  ·rename_i m h1
   cases h
   exact WV.sc fun G a w ok=>by unfold execOp;have hw:=I64.wrap hφ;simp [ho,ok.evs h1,Op.unary,Op.intArith];simpa using hw
  ·cases h
 ·cases h
theorem WL.neg {φ:Prop} {z:Int} (hd:lK C.N o=some d)(h:as6 σ o.op=some (φ,z))(hφ:φ)(k:WL P C ops rest (σ.put d (.sc (.int .i64 z))) Q):WL P C ops (o::rest) σ Q:=WL.vl hd (anW h hφ) k
theorem ZR {T e n len:Nat} (hT:P.underlying T=some (.array len e)) (hn:iE P e=some n) (ad:Addr) (k:IntKind) (z:Int) (h0:0≤z) (h1:z<len) :
  (Instr.indexAt T (.pointer (some ad)) (.int k z)).run P w=.ok (.pointer (some (ad.add (z.toNat*n)))) w:=by
 simp [Instr.indexAt,asIntOf,run_underlying hT,Instr.sureAddr,h0,h1,kH hn]
def anA (P:Program)(σ:St):Op→Option (AV×Nat×Nat×Int)
 | .indexAddr T x y =>
  match P.underlying T,σ.ev x,σ.ev y with
  | some (.array len e),some av,some (.sc (.int _ z)) =>
   match iE P e with
   | some n=>some (av,len,n,z)
   | none=>none
  | _,_,_=>none
 | _=>none
theorem U6 {av:AV} {len n:Nat} {z:Int} (h:anA P σ o.op=some (av,len,n,z))(h0:0≤z∧z<len) {XZ:AV} (hb:∀ nk,Bd nk av→Bd nk XZ)
  (hr:∀ G a w,Ok C σ G a w→∀ v,R G av v→∃ ad,v=.pointer (some ad)∧R G XZ (.pointer (some (ad.add (z.toNat*n))))):WV P C o σ XZ:=by
 unfold anA at h
 split at h
 ·rename_i T x y ho
  split at h
  ·rename_i len' e XZ k z' hT hx hy
   split at h
   ·rename_i m hn
    cases h
    refine WV.val (fun G a w ok=>hb _ (ok.nO hx).1) fun G a w ok=>?_
    obtain⟨ad,e1,e2⟩:=hr G a w ok _ (ok.nO hx).2
    exact⟨_,by unfold execOp;simp [ho,e1,ok.evs hy,ZR hT hn ad k z h0.1 h0.2],e2⟩
   ·cases h
  ·cases h
 ·cases h
theorem WL.glob (hB:Holds B gl C) {g len:Nat} {z:Int} {u:Value} (hd:lK C.N o=some d) (h:anA P σ o.op=some (.sc (.pointer (some ⟨g,0,none⟩)),len,1,z)) (h0:0≤z∧z<len) (hu:∀ w F,B w F→F ⟨g,z.toNat,none⟩=some u) (h1:u.oneCell'=true)
  (k:WL P C ops rest (σ.put d (.pr [.sc u])) Q):WL P C ops (o::rest) σ Q :=
 WL.vl hd (U6 h h0 (fun nk _=>.pr _) fun G a w ok v r=>⟨⟨g,0,none⟩,r.fB,.pu _ _ (.pr _ _ (fun _=>u) (fun j av hj=>by
  match j with
  | 0 =>
   exact akE
  | j+1=>simp at hj) fun j av hj=>by
  match j with
  | 0=>cases hj;exact .sc _
  | j+1=>simp at hj)⟩) k
theorem DK.glob (hB:Holds B gl C) {g len:Nat} {z:Int} {u:Value} (hd:NQ C.N ops σ o=some d) (h:anA P (σ.only (o.looksAt ops)) o.op=some (.sc (.pointer (some ⟨g,0,none⟩)),len,1,z)) (h0:0≤z∧z<len) (hu:∀ w F,B w F→F ⟨g,z.toNat,none⟩=some u) (h1:u.oneCell'=true)
  (k:DK P C ops rest (σ.put d (.pr [.sc u])) Q):DK P C ops (o::rest) σ Q :=
 DK.vl hd (U6 h h0 (fun nk _=>.pr _) fun G a w ok v r=>⟨⟨g,0,none⟩,r.fB,.pu _ _ (.pr _ _ (fun _=>u) (fun j av hj=>by
  match j with
  | 0 =>
   exact akE
  | j+1=>simp at hj) fun j av hj=>by
  match j with
  | 0=>cases hj;exact .sc _
  | j+1=>simp at hj)⟩) k
end
def tC (tmps:Array Value):ResultVar→Sem Value
 | .tmp t=>pure (tmps.getD t undef)
 | .cell a t=>do loadVar t (← asAddr (tmps.getD a undef))
def resV (P:Program)(σ:St):ResultVar→Option AV
 | .tmp t=>look t σ.t
 | .cell t T =>
  match look t σ.t with
  | some (.pt k 0 0) =>
   match look k σ.M,yI P T with
   | some (.box T' cells),some true =>
    match iE P T with
    | some n=>bif Nat.beq cells.length n then some (.ag cells)else none
    | none=>none
   | _,_=>none
  | _=>none
def CP (P:Program)(σ:St):List ResultVar→Option (List AV)
 | []=>some []
 | r::l =>
  match resV P σ r,CP P σ l with
  | some a,some b=>some (a::b)
  | _,_=>none
section
variable {P:Program} {C:Cx} {σ:St} {G:Gh} {a:Act} {w:World}
theorem SC (ok:Ok C σ G a w) {r:ResultVar} {av:AV} (h:resV P σ r=some av)(hp:av.pu2=true):∃ v,(tC a.tmps r).run P w=.ok v w∧RP G.F av v:=by
 cases r with
 | tmp t=>exact⟨a.tmps.getD t undef,rfl,(oC hp 0).rp (ok.tm t _ h).2.2⟩
 | cell t T =>
  simp only [resV] at h
  split at h
  ·rename_i k ht
   split at h
   ·rename_i T' cells hk hT
    split at h
    ·rename_i n hn
     cases hb:Nat.beq cells.length n with
     | false=>rw [hb] at h;cases h
     | true =>
      rw [hb] at h
      cases h
      obtain⟨p,ep,p1,p2,p3⟩:=(ok.tm t _ ht).2.2.lV
      obtain⟨_,_,g3,cs,Φ,g4,g5,_,_,g6⟩:=ok.ob k _ hk
      obtain rfl:=addr_eq p1 p2 p3
      rw [zI,lW] at ep
      have hpc:cells.all AV.Ui=true:=hp
      refine⟨.agg cs,?_,.ag _ _ g5 fun i av u x y=>(zo (List.all_eq_true.1 hpc av (cO x)) 0).rp ((g6 i av u x y).r (acn (List.all_eq_true.1 hpc av (cO x))))⟩
      exact aqT
    ·cases h
   ·cases h
  ·cases h
theorem acv (ok:Ok C σ G a w):∀ {l:List ResultVar} {bI:List AV},CP P σ l=some bI→bI.all AV.pu2=true→∃ vs:List Value,(l.mapM (tC a.tmps)).run P w=.ok vs w∧vs.length=bI.length∧∀ (i:Nat)av u,bI[i]?=some av→vs[i]?=some u→RP G.F av u
 | [],bI,h,_=>by cases h;exact ⟨[],rfl,rfl,fun i av u x=>by simp at x⟩
 | r::l,bI,h,hp=>by
  cases h1:resV P σ r with
  | none=>simp only [CP,h1]at h;cases h
  | some x =>
  cases h2:CP P σ l with
  | none=>simp only [CP,h1,h2]at h;cases h
  | some y =>
   simp only [CP,h1,h2,Option.some.injEq]at h
   subst h
   simp only [List.all_cons,aW]at hp
   obtain ⟨v,e1,e2⟩:=SC ok h1 hp.1
   obtain ⟨vs,f1,f2,f3⟩:=acv ok h2 hp.2
   exact aq9
theorem Yt {fn:Func} {bI:List AV} {res:AV} (h:CP P σ fn.results.toList=some bI)(hp:bI.all AV.pu2=true)(hl:Nat.beq bI.length 1=false)(e:.tu bI=res):Um P fn C res .ret σ:=by
 refine⟨.inr rfl,fun G a w ok=>?_⟩
 subst e
 obtain⟨vs,e1,e2,e3⟩:=acv ok h hp
 exact aqW
end
def vX (G:Gh)(M:List (Nat×AO))(x:Nat):Prop:=∃ k o,look k M=some o∧G.fp k x
structure X5 (G:Gh)(w:World)(M:List (Nat×AO))(nk:Nat):Prop where
 fw:∀ p u,G.F p=some u→w.cell? p=some u
 ob:∀ k o,look k M=some o→k<nk∧o.bd nk∧oU G w k o
 my:∀ k o x,look k M=some o→G.fp k x→x<w.heap.size
 dj:∀ k o k' o' x,look k M=some o→look k' M=some o'→G.fp k x→G.fp k' x→k=k'
 dF:∀ k o x p u,look k M=some o→G.fp k x→G.F p=some u→p.block≠x
def jI (B:World→View→Prop)(g:Nat)(P:Program)(f:FuncId)(args:List AV)(M:List (Nat×AO))(nk:Nat)(res:AV)(M':List (Nat×AO))(dh:Nat):Prop :=
 ∀ (w:World)(G:Gh)(vs:List Value),B w G.F→(∀ x,vX G M x→g≤x)→X5 G w M nk→vs.length=args.length→(∀ (i:Nat) av u,args[i]?=some av→vs[i]?=some u→R G av u) →
  Calls P f vs.toArray w fun e w'=>∃ v G',e=.returned v∧Kept (vX G M) w w'∧View.le G.F G'.F∧(∀ p u,G'.F p=some u→G.F p=some u∨w.heap.size≤p.block∨vX G M p.block)∧X5 G' w' M' dh ∧
   (∀ k o x,look k M'=some o→G'.fp k x→w.heap.size≤x∨vX G M x)∧(∀ k,k<nk→G'.b k=G.b k∧G'.n k=G.n k∧G'.h k=G.h k)∧nk≤dh∧Bd dh res∧R G' res v
def sK (P:Program) (fn:Func) (C:Cx) (res:AV) (M':List (Nat×AO)) (dh:Nat):Exit→St→Prop:=fun e σ=>(e=.normal∨e=.ret) ∧
 ∀ G a w,Ok C σ G a w→∃ v G',(results fn a.tmps).run P w=.ok v w∧Ok C ⟨[],M',dh⟩ G' a w∧Bd dh res∧R G' res v
theorem jI.intro {B:World→View→Prop} {g:Nat} (hS:QJ B g) {P:Program} {f:FuncId} {fn:Func} {c:Code} {args:List AV} {M:List (Nat×AO)} {nk:Nat} {res:AV} {M':List (Nat×AO)} {dh:Nat} (hf:P.funcs[f]?=some fn) (hb:fn.body=some c) {N:Nat} (hN:fn.ntmps=N) (hn:args.length≤N)
  (hp:args.all (AV.inn nk)=true)
  (h:∀ w0 F0 fp pg,Holds B g ⟨w0,F0,N,fp,nk,pg,[]⟩→W P ⟨w0,F0,N,fp,nk,pg,[]⟩ c ⟨number 0 args,M,nk⟩ (sK P fn ⟨w0,F0,N,fp,nk,pg,[]⟩ res M' dh)):jI B g P f args M nk res M' dh:=by
 intro w G vs hB hlo hO hl hR
 subst hN
 refine calls_of_wp hf hb ?_
 have hH:Holds B g ⟨w,G.F,fn.ntmps,vX G M,nk,G,[]⟩:=⟨fun w2 F2 k1 k2=>hS.2 w w2 G.F F2 (fun i hi=>k1.block i (lH hi (hS.1 w G.F hB)) fun h=>by have:=hlo i h;omega) k2 hB,fun x hx=>hx.elim (fun h=>jV (hS.1 w G.F hB) h) (hlo x)⟩
 have h1:=h w G.F (vX G M) G hH G { tmps:=vs.toArray++Array.replicate (fn.ntmps - vs.toArray.size) undef,defers:=[] } w
  ⟨by simp;omega,⟨rfl,bJ _,fun k _=>⟨rfl,rfl,rfl⟩⟩,fun i av hx=>by
   obtain ⟨_,h2⟩:=kZ args 0 i av hx
   simp only [F7] at h2
   have hi:i < args.length:=(List.getElem?_eq_some_iff.1 h2).1
   have hv:i < vs.length:=by omega
   refine ⟨by show i < fn.ntmps;omega,E8 (List.all_eq_true.1 hp av (cO h2)),hR i av _ h2 ?_⟩
   simp [dM,Es,hv],
   Kept.refl _ _,hO.fw,fun _ _ h=>h,fun _ _ h=>.inl h,hO.ob,(fun k o x h1 h2=>⟨.inr ⟨k,o,h1,h2⟩,hO.my k o x h1 h2⟩),hO.dj,hO.dF⟩
 refine wp_mono h1 fun e a w' ⟨σ,G1,⟨he,hfin⟩,ok⟩=>?_
 obtain ⟨v,G',hr,ok',hbd,hres⟩:=hfin G1 a w' ok
 have fin:∃ v' yc,Ending.returned v=.returned v'∧Kept (vX G M) w w'∧View.le G.F yc.F∧(∀ p u,yc.F p=some u→G.F p=some u∨w.heap.size≤p.block∨vX G M p.block)∧X5 yc w' M' dh ∧
   (∀ k o x,look k M'=some o→yc.fp k x→w.heap.size≤x∨vX G M x)∧(∀ k,k < nk→yc.b k=G.b k∧yc.n k=G.n k∧yc.h k=G.h k)∧nk≤dh∧Bd dh res∧R yc res v' :=
  ⟨v,G',rfl,ok'.bel,ok'.f0,ok'.f1,⟨ok'.fw,ok'.ob,fun k o x h1 h2=>(ok'.my k o x h1 h2).2,ok'.dj,ok'.dF⟩,fun k o x h1 h2=>(ok'.my k o x h1 h2).1,ok'.df.2.2,ok'.df.2.1,hbd,hres⟩
 rcases he with rfl|rfl
 ·exact ⟨ok'.df.1,v,hr,fin⟩
 ·exact ⟨ok'.df.1,v,hr,fin⟩
section
variable {P:Program} {C:Cx} {σ:St} {G:Gh} {a:Act} {w:World}
theorem atL (ok:Ok C σ G a w) {r:ResultVar} {av:AV} (h:resV P σ r=some av)(hp:ownB av=false):∃ v,(tC a.tmps r).run P w=.ok v w∧R G av v∧Bd σ.nk av:=by
 cases r with
 | tmp t=>exact⟨a.tmps.getD t undef,rfl,(ok.tm t _ h).2.2,(ok.tm t _ h).2.1⟩
 | cell t T =>
  simp only [resV] at h
  split at h
  ·rename_i k ht
   split at h
   ·rename_i T' cells hk hT
    split at h
    ·rename_i n hn
     cases hb:Nat.beq cells.length n with
     | false=>rw [hb] at h;cases h
     | true =>
      rw [hb] at h
      cases h
      obtain⟨p,ep,p1,p2,p3⟩:=(ok.tm t _ ht).2.2.lV
      obtain⟨_,hbd,g3,cs,Φ,g4,g5,_,_,g6⟩:=ok.ob k _ hk
      obtain rfl:=addr_eq p1 p2 p3
      rw [zI,lW] at ep
      have hown:=Wj hp
      refine⟨.agg cs,?_,.ag _ _ g5 fun i av u x y=>(g6 i av u x y).r (by simpa using List.all_eq_true.1 hown av (cO x)),.ag _ fun i av x=>hbd i av x⟩
      exact aqT
    ·cases h
   ·cases h
  ·cases h
theorem aiL (ok:Ok C σ G a w):∀ {l:List ResultVar} {bI:List AV},CP P σ l=some bI→bI.all (fun av=>!ownB av)=true→∃ vs:List Value,(l.mapM (tC a.tmps)).run P w=.ok vs w∧vs.length=bI.length∧(∀ (i:Nat)av u,bI[i]?=some av→vs[i]?=some u→R G av u)∧∀ (i:Nat)av,bI[i]?=some av→Bd σ.nk av
 | [],bI,h,_=>by cases h;exact ⟨[],rfl,rfl,fun i av u x=>by simp at x,fun i av x=>by simp at x⟩
 | r::l,bI,h,hp=>by
  cases h1:resV P σ r with
  | none=>simp only [CP,h1]at h;cases h
  | some x =>
  cases h2:CP P σ l with
  | none=>simp only [CP,h1,h2]at h;cases h
  | some y =>
   simp only [CP,h1,h2,Option.some.injEq]at h
   subst h
   simp only [List.all_cons,aW,iy]at hp
   obtain ⟨v,e1,e2,e3⟩:=atL ok h1 hp.1
   obtain ⟨vs,f1,f2,f3,f4⟩:=aiL ok h2 hp.2
   refine ⟨v::vs,by simp [List.mapM_cons,Sem.run_bind,e1,f1,Result.andThen],by simp [f2],fun i av u p q=>?_,fun i av p=>?_⟩
   ·cases i with
    | zero=>cases p;cases q;exact e2
    | succ i=>exact f3 i av u Qy rQ
   ·cases i with
    | zero=>cases p;exact e3
    | succ i=>exact f4 i av Qy
def resT:List AV→AV
 | [x]=>x
 | l=>.tu l
theorem Au {fn:Func} {bI:List AV} {res:AV} {M':List (Nat×AO)} {dh:Nat} (h:CP P σ fn.results.toList=some bI) (hp:bI.all (fun av=>!ownB av)=true) (e:resT bI=res) (hM:σ.M=M') (hk:σ.nk=dh):sK P fn C res M' dh .ret σ:=by
 refine ⟨.inr rfl,fun G a w ok=>?_⟩
 subst e hM hk
 obtain ⟨vs,e1,e2,e3,e4⟩:=aiL ok h hp
 have er:results fn a.tmps=(do let vs ← fn.results.mapM (tC a.tmps);pure (if h:vs.size=1 then vs[0] else .tuple vs)):=rfl
 have run:(results fn a.tmps).run P w=.ok (if h:vs.toArray.size=1 then vs.toArray[0] else .tuple vs.toArray) w:=by
  rw [er,Array.mapM_eq_mapM_toList]
  simp only [Sem.run_bind,Sem.run_map,e1,Result.andThen]
  rfl
 have okE:Ok C ⟨[],σ.M,σ.nk⟩ G a w:=⟨ok.sz,ok.df,fun i av h=>(by cases h),ok.bel,ok.fw,ok.f0,ok.f1,ok.ob,ok.my,ok.dj,ok.dF⟩
 cases bI with
 | nil =>
  cases vs with
  | nil=>exact ⟨.tuple #[],G,run,okE,.tu _ fun i x hx=>by simp at hx,.tu _ _ rfl fun i av u x=>by simp at x⟩
  | cons v us=>cases e2
 | cons x r =>
  cases vs with
  | nil=>cases e2
  | cons v us =>
   cases r with
   | nil =>
    cases us with
    | nil=>exact ⟨v,G,run,okE,e4 0 x rfl,e3 0 x v rfl rfl⟩
    | cons u us=>cases e2
   | cons y r =>
    cases us with
    | nil=>cases e2
    | cons u us =>
     refine ⟨.tuple (v::u::us).toArray,G,?_,okE,.tu _ e4,.tu _ _ (by simpa using e2) fun i av u' p q=>e3 i av u' p rQ⟩
     rw [run,dif_neg (by simp)]
end
theorem R.un0 {G:Gh} {ρ:Nat→Nat} {nk:Nat} {av:AV} {v:Value} (h:av.in0 nk=true) (r:R (G.ren ρ) av v):R G (av.Eb ρ) v:=by
 cases av with
 | pt k i j=>obtain ⟨p,rfl,a,b,c⟩:=r.lV;exact .pt _ i j p a b c
 | sl k=>obtain ⟨rfl,b⟩:=r.nG;exact R.sl (G:=G) (ρ k) b
 | sc x=>rw [r.fB];exact .pu _ _ (.sc x)
 | ls n rows=>exact .pu _ _ (show RP G.F _ _ from r.D7)
 | pr cells=>exact .pu _ _ (show RP G.F _ _ from r.oz)
 | ow T n rows=>exact r.Vu.elim
 | _=>cases h
theorem R.un1 {G:Gh} {ρ:Nat→Nat} {nk:Nat} {av:AV} {v:Value} (h:av.in1 nk=true) (r:R (G.ren ρ) av v):R G (av.qC ρ) v:=by
 cases av with
 | fn f l =>
  obtain ⟨cs,rfl,h1,h2⟩:=r.A8
  refine .fn f _ cs rO fun i av u x y=>?_
  rw [bT] at x
  cases hq:l[i]? with
  | none=>simp [hq] at x
  | some b=>simp [hq] at x;rw [← x];exact R.un0 (List.all_eq_true.1 h b (cO hq)) (h2 i b u hq y)
 | ag l=>cases h
 | tu l=>cases h
 | pt k i j=>exact R.un0 (av:=.pt k i j) (nk:=nk) h r
 | sl k=>exact R.un0 (av:=.sl k) (nk:=nk) h r
 | sc x=>exact R.un0 (av:=.sc x) (nk:=nk) h r
 | ls n rows=>exact R.un0 (av:=.ls n rows) (nk:=nk) h r
 | ow T n rows=>exact R.un0 (av:=.ow T n rows) (nk:=nk) h r
 | pr cells=>exact R.un0 (av:=.pr cells) (nk:=nk) h r
theorem R.un2 {G:Gh} {ρ:Nat→Nat} {nk:Nat} {av:AV} {v:Value} (h:av.in2 nk=true) (r:R (G.ren ρ) av v):R G (av.Az ρ) v:=by
 cases av with
 | ag l =>
  obtain ⟨cs,rfl,h1,h2⟩:=r.AX
  refine .ag _ cs rO fun i av u x y=>?_
  rw [bT] at x
  cases hq:l[i]? with
  | none=>simp [hq] at x
  | some b=>simp [hq] at x;rw [← x];exact R.un1 (List.all_eq_true.1 h b (cO hq)) (h2 i b u hq y)
 | tu l=>cases h
 | fn f l=>exact R.un1 (av:=.fn f l) (nk:=nk) h r
 | pt k i j=>exact R.un1 (av:=.pt k i j) (nk:=nk) h r
 | sl k=>exact R.un1 (av:=.sl k) (nk:=nk) h r
 | sc x=>exact R.un1 (av:=.sc x) (nk:=nk) h r
 | ls n rows=>exact R.un1 (av:=.ls n rows) (nk:=nk) h r
 | ow T n rows=>exact R.un1 (av:=.ow T n rows) (nk:=nk) h r
 | pr cells=>exact R.un1 (av:=.pr cells) (nk:=nk) h r
theorem R.un {G:Gh} {ρ:Nat→Nat} {nk:Nat} {av:AV} {v:Value} (h:av.inn nk=true) (r:R (G.ren ρ) av v):R G (av.ren ρ) v:=by
 cases av with
 | tu l =>
  obtain ⟨cs,rfl,h1,h2⟩:=r.Qi
  refine .tu _ cs rO fun i av u x y=>?_
  rw [bT] at x
  cases hq:l[i]? with
  | none=>simp [hq] at x
  | some b=>simp [hq] at x;rw [← x];exact R.un2 (List.all_eq_true.1 h b (cO hq)) (h2 i b u hq y)
 | ag l=>exact R.un2 (av:=.ag l) (nk:=nk) h r
 | fn f l=>exact R.un2 (av:=.fn f l) (nk:=nk) h r
 | pt k i j=>exact R.un2 (av:=.pt k i j) (nk:=nk) h r
 | sl k=>exact R.un2 (av:=.sl k) (nk:=nk) h r
 | sc x=>exact R.un2 (av:=.sc x) (nk:=nk) h r
 | ls n rows=>exact R.un2 (av:=.ls n rows) (nk:=nk) h r
 | ow T n rows=>exact R.un2 (av:=.ow T n rows) (nk:=nk) h r
 | pr cells=>exact R.un2 (av:=.pr cells) (nk:=nk) h r
theorem CR.un {G:Gh} {w:World} {ρ:Nat→Nat} {nk:Nat} {φ:Nat→Prop} {av:AV} {v:Value} (h:av.in1 nk=true)(r:CR (G.ren ρ) w φ av v):CR G w φ (av.qC ρ) v:=by
 rcases r with r|o
 ·exact .inl (R.un1 h r)
 ·by_cases ho:av.own=true
  ·exact ade
  ·exact .inl (R.un1 h (.pu _ _ (OW.p o XR)))
theorem oU.un {G:Gh} {w:World} {ρ:Nat→Nat} {nk k:Nat} {ob:AO} (h:ob.inn nk=true) (g:oU (G.ren ρ) w k ob):oU G w (ρ k) (ob.ren ρ):=by
 cases ob with
 | box T cells =>
  obtain ⟨b1,cs,Φ,b2,b3,b4,b5,b6⟩:=g
  refine ⟨b1,cs,Φ,b2,by simpa using b3,b4,b5,fun i av u x y=>?_⟩
  rw [bT] at x
  cases hq:cells[i]? with
  | none=>simp [hq] at x
  | some b=>simp [hq] at x;rw [← x];exact CR.un (List.all_eq_true.1 h b (cO hq)) (b6 i b u hq y)
 | row T n rows=>exact g
 | jM T n rows=>exact g
 | EF T n rows hi hj y =>
  obtain ⟨g1,g2,g3⟩:=g
  refine ⟨g1,g2,g3.keep (fun _ _=>rfl) fun i r j av ψ u _ _ _ x=>?_⟩
  unfold XH at x ⊢
  exact alP
 | oW T n rows hi hj y =>
  obtain ⟨g1,g2,g3⟩:=g
  refine ⟨g1,g2,g3.keep (fun _ _=>rfl) fun i r j av ψ u _ _ _ x=>?_⟩
  unfold XQ at x ⊢
  exact alP
 | xq T e l=>exact g
 | opq q=>exact g
def rhoC(ks:List Nat)(nk m q:Nat):Nat:=bif Nat.blt q nk then ks.getD q 0 else m+(q-nk)
def idx (q:Nat):List Nat→Option Nat
 | []=>none
 | x::r=>bif Nat.beq q x then some 0 else (idx q r).map (·+1)
theorem U7 {q:Nat}:∀ {l:List Nat} {i:Nat},idx q l=some i→l[i]?=some q
 | [],i,h=>by cases h
 | x::r,i,h=>by
  unfold idx at h
  cases hb:Nat.beq q x with
  | true=>rw [hb]at h;cases h;rw [dW hb];rfl
  | false =>
   rw [hb]at h
   simp only [cond_false]at h
   obtain⟨j,h1,rfl⟩:=Option.map_eq_some_iff.1 h
   simpa using U7 h1
def FD {α:Type} (ks:List Nat)(M:List (Nat×α)):List (Nat×α):=ks.foldr (fun k r=>rem k r) M
theorem O1 {α:Type} (i:Nat):∀ (ks:List Nat)(M:List (Nat×α)),look i (FD ks M)=if i∈ks then none else look i M
 | [],M=>by simp [FD]
 | k::r,M=>by
  show look i (rem k (FD r M))=_
  rw [nY,O1 i r M]
  by_cases e:i=k
  ·rw [if_pos e,if_pos (by simp [e])]
  ·rw [if_neg e]
   by_cases e2:i∈r
   ·rw [if_pos e2,if_pos (by simp [e2])]
   ·rw [if_neg e2,if_neg (by simp [e,e2])]
def Ec (ρ:Nat→Nat):List (Nat×AO)→List (Nat×AO)
 | []=>[]
 | x::r=>(ρ x.1,x.2.ren ρ)::Ec ρ r
theorem wu {α:Type} (i:Nat):∀ (l r:List (Nat×α)),look i (l++r)=(look i l).or (look i r)
 | [],r=>by simp [look]
 | x::l,r=>by
  by_cases e:i=x.1
  ·subst e
   rw [zK,show look x.1 (x::(l++r))=some x.2 from aA,show look x.1 (x::l)=some x.2 from aA];rfl
  ·rw [zK,show look i (x::(l++r))=look i (l++r)from aj e,show look i (x::l)=look i l from aj e]
   exact wu i l r
theorem O4 {ρ:Nat→Nat} {q:Nat} {o:AO}:∀ {M:List (Nat×AO)},(∀ x∈M,∀ y∈M,ρ x.1=ρ y.1→x.1=y.1)→look q (Ec ρ M)=some o→∃ i ob,q=ρ i∧look i M=some ob∧o=ob.ren ρ
 | [],_,h=>by cases h
 | x::r,hi,h=>by
  by_cases e:q=ρ x.1
  ·subst e
   rw [show look (ρ x.1) (Ec ρ (x::r))=some (x.2.ren ρ) from aA] at h
   cases h
   exact ⟨x.1,x.2,rfl,aA,rfl⟩
  ·rw [show look q (Ec ρ (x::r))=look q (Ec ρ r) from aj e] at h
   obtain ⟨i,ob,e1,e2,e3⟩:=O4 (fun y hy z hz=>hi y BK z (by simp [hz])) h
   refine ⟨i,ob,e1,?_,e3⟩
   rw [show look i (x::r)=look i r from aj fun h=>e (by rw [e1,h])]
   exact e2
theorem AO.SB {ρ:Nat→Nat} {nk nk2:Nat} {ob:AO} (h:ob.inn nk=true)(hρ:∀ i,i<nk→ρ i<nk2):(ob.ren ρ).bd nk2:=by
 have r0:∀ av:AV,av.in0 nk=true→Bd nk2 (av.Eb ρ):=fun av h=>by
  cases av with
  | sc v=>exact .sc v
  | ls n rows=>exact .ls n rows
  | ow T n rows=>exact .ow T n rows
  | pr cells=>exact .pr cells
  | pt k i j=>exact .pt _ i j (hρ k (dP h))
  | sl k=>exact .sl _ (hρ k (dP h))
  | _=>cases h
 have r1:∀ b:AV,b.in1 nk=true→Bd nk2 (b.qC ρ):=fun b hb=>by
  cases b with
  | fn f l =>
   refine .fn f _ fun j x hx=>?_
   rw [bT] at hx
   cases hq2:l[j]? with
   | none=>simp [hq2] at hx
   | some c=>simp [hq2] at hx;rw [← hx];exact r0 c (List.all_eq_true.1 hb c (cO hq2))
  | ag l=>cases hb
  | tu l=>cases hb
  | sc v=>exact r0 (.sc v) hb
  | ls n rows=>exact r0 (.ls n rows) hb
  | ow T n rows=>exact r0 (.ow T n rows) hb
  | pr cells=>exact r0 (.pr cells) hb
  | pt k i j=>exact r0 (.pt k i j) hb
  | sl k=>exact r0 (.sl k) hb
 cases ob with
 | box T cells =>
  intro i av hx
  have hx:(cells.map (AV.qC ρ))[i]?=some av:=hx
  rw [bT] at hx
  cases hq:cells[i]? with
  | none=>simp [hq] at hx
  | some b =>
   simp [hq] at hx
   rw [← hx]
   exact r1 b (List.all_eq_true.1 h b (cO hq))
 | row T n rows=>trivial
 | jM T n rows=>trivial
 | EF T n rows hi hj y=>exact r1 y h
 | oW T n rows hi hj y=>exact r1 y h
 | xq T e l=>trivial
 | opq q=>trivial
theorem AV.SB {ρ:Nat→Nat} {nk nk2:Nat} {av:AV} (h:av.inn nk=true) (hρ:∀ i,i<nk→ρ i<nk2):Bd nk2 (av.ren ρ):=by
 have r1:∀ av:AV,av.in1 nk=true→Bd nk2 (av.qC ρ):=fun av h=>by
  have:=AO.SB (ob:=.box 0 [av]) (ρ:=ρ) (nk:=nk) (nk2:=nk2) (by simp [AO.inn,h]) hρ
  exact this 0 _ rfl
 have r2:∀ av:AV,av.in2 nk=true→Bd nk2 (av.Az ρ):=fun av h=>by
  cases av with
  | ag l =>
   refine .ag _ fun j x hx=>?_
   rw [bT] at hx
   cases hq2:l[j]? with
   | none=>simp [hq2] at hx
   | some c=>simp [hq2] at hx;rw [← hx];exact r1 c (List.all_eq_true.1 h c (cO hq2))
  | fn f l=>exact r1 (.fn f l) h
  | tu l=>cases h
  | sc v=>exact r1 (.sc v) h
  | ls n rows=>exact r1 (.ls n rows) h
  | ow T n rows=>exact r1 (.ow T n rows) h
  | pr cells=>exact r1 (.pr cells) h
  | pt k i j=>exact r1 (.pt k i j) h
  | sl k=>exact r1 (.sl k) h
 cases av with
 | tu l =>
  refine .tu _ fun j x hx=>?_
  rw [bT] at hx
  cases hq2:l[j]? with
  | none=>simp [hq2] at hx
  | some c=>simp [hq2] at hx;rw [← hx];exact r2 c (List.all_eq_true.1 h c (cO hq2))
 | ag l=>exact r2 (.ag l) h
 | fn f l=>exact r2 (.fn f l) h
 | sc v=>exact r2 (.sc v) h
 | ls n rows=>exact r2 (.ls n rows) h
 | ow T n rows=>exact r2 (.ow T n rows) h
 | pr cells=>exact r2 (.pr cells) h
 | pt k i j=>exact r2 (.pt k i j) h
 | sl k=>exact r2 (.sl k) h
def ksB (ks:List Nat)(nk m:Nat):Bool:=Nat.beq ks.length nk && YO id ks && nodB ks && ks.all (fun k=>Nat.blt k m)
where nodB : List Nat → Bool
  | [] => true
  | x :: r => !(r.any fun y => Nat.beq x y) && nodB r
theorem RF:∀ {ks:List Nat},ksB.nodB ks=true→ks.Nodup
 | [],_=>List.nodup_nil
 | x::r,h=>by
  simp only [ksB.nodB,aW,iy,Ep]at h
  exact List.nodup_cons.2 ⟨fun hx=>h.1 x hx (Qm x),RF h.2⟩
theorem E5 {q:Nat}:∀ {l:List Nat} {i:Nat},l.Nodup→l[i]?=some q→idx q l=some i
 | [],i,_,h=>by simp at h
 | x::r,0,_,h=>by cases h;unfold idx;rw [Qm];rfl
 | x::r,i+1,hn,h=>by
  have h:r[i]?=some q:=by simpa using h
  have hne:q≠x:=fun e=>(List.nodup_cons.1 hn).1 (e ▸ cO h)
  have hb:Nat.beq q x=false:=by
   cases hb:Nat.beq q x with
   | false=>rfl
   | true=>exact absurd (dW hb) hne
  unfold idx
  rw [hb]
  simp only [cond_false]
  rw [E5 (List.nodup_cons.1 hn).2 h];rfl
section
variable {B:World→View→Prop} {gl:Nat} {P:Program} {C:Cx} {σ:St} {G:Gh} {a:Act} {w w':World}
theorem Ok.qo (ok:Ok C σ G a w) {ks:List Nat} {M M':List (Nat×AO)} {nk dh:Nat} {G':Gh} (hks:ksB ks nk σ.nk=true) (hM:∀ k o,look k M=some o→k<nk∧∃ o2,look (ks.getD k 0) σ.M=some o2)
  (hMk:∀ x,vX (G.ren (rhoC ks nk σ.nk)) M x→∃ k o,k<nk∧look (ks.getD k 0) σ.M=some o∧G.fp (ks.getD k 0) x)
  (hkept:Kept (vX (G.ren (rhoC ks nk σ.nk)) M) w w') (hF:View.le G.F G'.F) (hnew:∀ p u,G'.F p=some u→G.F p=some u∨w.heap.size≤p.block∨vX (G.ren (rhoC ks nk σ.nk)) M p.block) (hO:X5 G' w' M' dh)
  (hmy:∀ k o x,look k M'=some o→G'.fp k x→w.heap.size≤x∨vX (G.ren (rhoC ks nk σ.nk)) M x) (anv:∀ k,k<nk→G'.b k=(G.ren (rhoC ks nk σ.nk)).b k∧G'.n k=(G.ren (rhoC ks nk σ.nk)).n k∧G'.h k=(G.ren (rhoC ks nk σ.nk)).h k) (hle:nk≤dh)
  (ag0:M'.all (fun x=>x.2.inn dh)=true) (hkm:M'.all (fun x=>Nat.blt x.1 dh)=true) :
  ∃ yc,Ok C ⟨σ.t,Ec (rhoC ks nk σ.nk) M'++FD ks σ.M,σ.nk+(dh-nk)⟩ yc a w'∧∀ av v,av.inn dh=true→R G' av v→R yc (av.ren (rhoC ks nk σ.nk)) v:=by
 simp only [ksB,aW] at hks
 obtain ⟨⟨⟨hk1,_⟩,hk3⟩,hk4⟩:=hks
 have hlen:=dW hk1
 have YI:=RF hk3
 have hlt:∀ i,i<nk→ks.getD i 0<σ.nk:=fun i hi=>by
  exact aj3
 have hat:∀ i,i<nk→ks[i]?=some (ks.getD i 0):=fun i hi=>by
  exact aaA
 let ρ:=rhoC ks nk σ.nk
 have WM:∀ i,i<nk→ρ i=ks.getD i 0:=fun i hi=>by
  exact amc
 have rhi:∀ i,nk≤i→ρ i=σ.nk+(i-nk):=fun i hi=>by
  show (bif Nat.blt i nk then _ else _)=_
  rw [show Nat.blt i nk=false from by
   cases h:Nat.blt i nk with
   | false=>rfl
   | true=>exact absurd (dP h) au];rfl
 let yc:Gh:=⟨G'.F,fun q=>if σ.nk≤q then G'.b (q-σ.nk+nk) else G.b q,fun q=>if σ.nk≤q then G'.n (q-σ.nk+nk) else G.n q,fun q=>if σ.nk≤q then G'.h (q-σ.nk+nk) else G.h q,
  fun q=>if σ.nk≤q then G'.fp (q-σ.nk+nk) else match idx q ks with
   | some i=>G'.fp i
   | none=>G.fp q⟩
 have agM:G.le yc σ.nk:=⟨hF,fun q hq=>if_neg au,fun q hq=>if_neg au,fun q hq=>if_neg au⟩
 have avQ:G'.le (yc.ren ρ) dh:=by
  refine ⟨fun _ _ h=>h,fun i hi=>?_,fun i hi=>?_,fun i hi=>?_⟩
  all_goals
   show (if σ.nk≤ρ i then _ else _)=_
   by_cases h:i<nk
   ·rw [WM i h,if_neg (by have:=hlt i h;omega)]
    first
     |exact (by rw [(anv i h).1];show _=G.b (ρ i);rw [WM i h])
     |exact (by rw [(anv i h).2.1];show _=G.n (ρ i);rw [WM i h])
     |exact (by rw [(anv i h).2.2];show _=G.h (ρ i);rw [WM i h])
   ·exact akS
 have avR:∀ i,i<dh→(yc.ren ρ).fp i=G'.fp i:=fun i hi=>by
  show (if σ.nk≤ρ i then _ else _)=_
  by_cases h:i<nk
  ·rw [WM i h,if_neg (by have:=hlt i h;omega)]
   show (match idx (ks.getD i 0) ks with
    | some i=>G'.fp i
    | none=>G.fp (ks.getD i 0))=_
   rw [E5 YI (hat i h)]
  ·exact akS
 have apC:∀ i,i<dh→ρ i<σ.nk+(dh-nk):=fun i hi=>by
  by_cases h:i<nk
  ·rw [WM i h];have:=hlt i h;omega
  ·rw [rhi i (by omega)];omega
 have asP:∀ i j,ρ i=ρ j→i<dh→j<dh→i=j:=fun i j e hi hj=>by
  by_cases h:i<nk<;>by_cases h':j<nk
  ·rw [WM i h,WM j h'] at e
   have h1:=E5 YI (hat i h)
   have h2:=E5 YI (hat j h')
   rw [e,h2] at h1
   exact (Option.some.inj h1).symm
  ·rw [WM i h,rhi j (by omega)] at e;have:=hlt i h;omega
  ·rw [rhi i (by omega),WM j h'] at e;have:=hlt j h';omega
  ·rw [rhi i (by omega),rhi j (by omega)] at e;omega
 have kin:∀ x∈M',x.1<dh:=fun x hx=>dP (List.all_eq_true.1 hkm x hx)
 have apJ:∀ k o,look k (Ec ρ M'++FD ks σ.M)=some o→(∃ i ob,k=ρ i∧look i M'=some ob∧o=ob.ren ρ∧i<dh∧ob.inn dh=true)∨(¬ k∈ks∧look k σ.M=some o∧k<σ.nk):=fun k o h=>by
  rw [wu] at h
  cases h1:look k (Ec ρ M') with
  | some o1 =>
   rw [h1] at h
   simp only [Option.some_or,Option.some.injEq] at h
   subst h
   obtain ⟨i,ob,e1,e2,e3⟩:=O4 (fun x hx y hy e=>asP _ _ e (kin x hx) (kin y hy)) h1
   have hx:i∈M'.map (·.1):=DJ e2
   obtain ⟨y,hy,hyi⟩:=List.mem_map.1 hx
   have hi:i<dh:=by rw [← hyi];exact kin y hy
   refine .inl ⟨i,ob,e1,e2,e3,hi,?_⟩
   have:∀ {l:List (Nat×AO)},look i l=some ob→∃ z∈l,z.2=ob:=fun {l}=>by
    induction l with
    | nil=>intro h;cases h
    | cons z r ih =>
     intro h
     by_cases e:i=z.1
     ·rw [e,show look z.1 (z::r)=some z.2 from aA] at h
      cases h
      exact ⟨z,by simp,rfl⟩
     ·rw [show look i (z::r)=look i r from aj e] at h
      obtain ⟨z',h1,h2⟩:=ih h
      exact ⟨z',by simp [h1],h2⟩
   obtain ⟨z,hz,hz2⟩:=this e2
   rw [← hz2];exact List.all_eq_true.1 ag0 z hz
  | none =>
   rw [h1] at h
   simp only [Option.none_or] at h
   rw [O1] at h
   by_cases e:k∈ks
   ·rw [if_pos e] at h;cases h
   ·rw [if_neg e] at h
    exact .inr ⟨e,h,(ok.ob k o h).1⟩
 have apm:∀ k,¬ k∈ks→k<σ.nk→yc.fp k=G.fp k:=fun k h1 h2=>by
  show (if σ.nk≤k then _ else _)=_
  rw [if_neg (by omega)]
  cases h3:idx k ks with
  | none=>rfl
  | some i=>exact absurd (cO (U7 h3)) h1
 have att:∀ k o x,¬ k∈ks→look k σ.M=some o→G.fp k x→¬ vX (G.ren (rhoC ks nk σ.nk)) M x:=fun k o x h1 h2 h3 h4=>by
  obtain ⟨i,o2,hi,h5,h6⟩:=hMk x h4
  have:=ok.dj k o _ o2 x h2 h5 h3 h6
  exact h1 (this ▸ cO (hat i hi))
 have fF:∀ p u,G.F p=some u→w'.heap[p.block]?=w.heap[p.block]?:=fun p u h=>hkept.block _ (aN (ok.fw p u h)) fun hx=>by
  obtain ⟨i,o2,hi,h5,h6⟩:=hMk _ hx
  exact ok.dF _ o2 _ p u h5 h6 h rfl
 have as2:∀ x,vX (G.ren (rhoC ks nk σ.nk)) M x→C.may x∧x<w.heap.size:=fun x h=>by
  obtain ⟨i,o2,hi,h5,h6⟩:=hMk x h
  exact ok.my _ o2 x h5 h6
 have av9:∀ x,w.heap.size≤x→C.may x:=fun x h=>.inl (jV ok.bel.size h)
 have fpN:∀ k o x,look k (Ec ρ M'++FD ks σ.M)=some o→yc.fp k x→(∃ i ob,k=ρ i∧look i M'=some ob∧i<dh∧G'.fp i x)∨(¬ k∈ks∧look k σ.M=some o∧k<σ.nk∧G.fp k x):=fun k o x h1 h2=>by
  rcases apJ k o h1 with⟨i,ob,e1,e2,e3,e4,e5⟩|⟨e1,e2,e3⟩
  ·refine .inl ⟨i,ob,e1,e2,e4,?_⟩
   have:=avR i e4
   rw [← this]
   show yc.fp (ρ i) x
   rw [← e1];exact h2
  ·rw [apm k e1 e3] at h2
   exact .inr ⟨e1,e2,e3,h2⟩
 refine ⟨yc,⟨ok.sz,⟨ok.df.1,jV ok.df.2.1 (F8 _ _),fun k hk=>?_⟩,fun i av x=>⟨(ok.tm i av x).1,(ok.tm i av x).2.1.mono (F8 _ _),(ok.tm i av x).2.2.mono agM (ok.tm i av x).2.1⟩,
  ok.bel.on hkept fun x hx=>(as2 x hx).1,hO.fw,fun p u x=>hF p u (ok.f0 p u x),fun p u x=>?_,fun k o x=>?_,fun k o x h1 h2=>?_,fun k o k' o' x h1 h2 h3 h4=>?_,fun k o x p u h1 h2 h3=>?_⟩,fun av v hin hr=>?_⟩
 ·have hk2:=lH hk ok.df.2.1
  rw [agM.b k hk2,agM.n k hk2,agM.h k hk2];exact ok.df.2.2 k hk
 ·rcases hnew p u x with h|h|h
  ·exact ok.f1 p u h
  ·exact .inr (av9 _ h)
  ·exact .inr (as2 _ h).1
 ·rcases apJ k o x with⟨i,ob,rfl,e2,rfl,e4,e5⟩|⟨e1,e2,e3⟩
  ·have h1:=hO.ob i ob e2
   have h2:oU (yc.ren ρ) w' i ob:=h1.2.2.keep avQ h1.1 h1.2.1 (avR i e4) fun _ _=>rfl
   exact ⟨apC i e4,AO.SB e5 apC,h2.un e5⟩
  ·have h1:=ok.ob k o e2
   exact ⟨lH e3 (F8 _ _),AO.QL (F8 _ _) h1.2.1,h1.2.2.keep agM h1.1 h1.2.1 (apm k e1 e3) fun y hy=>hkept.block y (ok.my k o y e2 hy).2 (att k o y e1 e2 hy)⟩
 ·rcases fpN k o x h1 h2 with⟨i,ob,e1,e2,e4,e5⟩|⟨e1,e2,e3,e4⟩
  ·refine ⟨?_,hO.my i ob x e2 e5⟩
   rcases hmy i ob x e2 e5 with h|h
   ·exact av9 x h
   ·exact (as2 x h).1
  ·exact ⟨(ok.my k o x e2 e4).1,lH (ok.my k o x e2 e4).2 hkept.size⟩
 ·have cross:∀ i ob k o,look i M'=some ob→G'.fp i x→¬ k∈ks→look k σ.M=some o→G.fp k x→False:=fun i ob k o e2 e5 f1 f2 f4=>by
   rcases hmy i ob x e2 e5 with h|h
   ·have:=(ok.my k o x f2 f4).2;omega
   ·exact att k o x f1 f2 f4 h
  rcases fpN k o x h1 h3 with⟨i,ob,e1,e2,e4,e5⟩|⟨e1,e2,e3,e4⟩
  ·rcases fpN k' o' x h2 h4 with⟨j,ob',f1,f2,f4,f5⟩|⟨f1,f2,f3,f4⟩
   ·rw [e1,f1,hO.dj i ob j ob' x e2 f2 e5 f5]
   ·exact (cross i ob k' o' e2 e5 f1 f2 f4).elim
  ·rcases fpN k' o' x h2 h4 with⟨j,ob',f1,f2,f4,f5⟩|⟨f1,f2,f3,f4⟩
   ·exact (cross j ob' k o f2 f5 e1 e2 e4).elim
   ·exact ok.dj k o k' o' x e2 f2 e4 f4
 ·rcases fpN k o x h1 h2 with⟨i,ob,e1,e2,e4,e5⟩|⟨e1,e2,e3,e4⟩
  ·exact hO.dF i ob x p u e2 e5 h3
  ·rcases hnew p u h3 with h|h|h
   ·exact ok.dF k o x p u e2 e4 h
   ·have:=(ok.my k o x e2 e4).2;omega
   ·intro e
    rw [e] at h
    exact att k o x e1 e2 e4 h
 ·exact R.un hin (hr.mono avQ (E8 hin))
theorem Ok.axZ (ok:Ok C σ G a w) (hB:Holds B gl C) {f:FuncId} {args args':List AV} {res res':AV} {M M':List (Nat×AO)} {nk dh:Nat} (ks:List Nat) {vs:List Value} (hl:vs.length=args'.length) (hR:∀ (i:Nat) av u,args'[i]?=some av→vs[i]?=some u→R G av u)
  (h:jI B gl P f args M nk res M' dh) (hks:ksB ks nk σ.nk=true) (ha:args.map (AV.ren (rhoC ks nk σ.nk))=args') (hp:args.all (AV.inn nk)=true) (hM:XY σ (rhoC ks nk σ.nk) nk M)
  (hle:Nat.ble nk dh=true) (ag0:M'.all (fun x=>x.2.inn dh)=true) (hkm:M'.all (fun x=>Nat.blt x.1 dh)=true) (hri:res.inn dh=true) (hr:res.ren (rhoC ks nk σ.nk)=res') :
  Calls P f vs.toArray w fun e w1=>∃ v yc,e=.returned v∧Ok C ⟨σ.t,Ec (rhoC ks nk σ.nk) M'++FD ks σ.M,σ.nk+(dh-nk)⟩ yc a w1∧R yc res' v∧Bd (σ.nk+(dh-nk)) res':=by
 subst hr
 have ag1:=hks
 simp only [ksB,aW] at ag1
 obtain ⟨⟨⟨hk1,_⟩,hk3⟩,hk4⟩:=ag1
 have hlen:=dW hk1
 have YI:=RF hk3
 have WM:∀ i,i<nk→rhoC ks nk σ.nk i=ks.getD i 0:=fun i hi=>by
  exact amc
 have hat:∀ i,i<nk→ks[i]?=some (ks.getD i 0):=fun i hi=>by
  exact aaA
 have adW:∀ k o,look k M=some o→look (ks.getD k 0) σ.M=some (o.ren (rhoC ks nk σ.nk))∧o.inn nk=true∧k<nk:=fun k o h=>by
  exact akM
 have hMk:∀ x,vX (G.ren (rhoC ks nk σ.nk)) M x→∃ k o,k<nk∧look (ks.getD k 0) σ.M=some o∧G.fp (ks.getD k 0) x:=fun x ⟨k,o,h1,h2⟩=>by
  exact aj8
 have hO:X5 (G.ren (rhoC ks nk σ.nk)) w M nk:=by
  exact aqS
 have pG:=h w (G.ren (rhoC ks nk σ.nk)) vs (hB.1 w G.F ok.bel ok.f0) (fun x hx=>by
   obtain ⟨k,o,_,h1,h2⟩:=hMk x hx
   exact hB.2 x (ok.my _ o x h1 h2).1) hO (by rw [hl,← ha];simp) fun i av u p q=>by
  have:args'[i]?=some (av.ren (rhoC ks nk σ.nk)):=by rw [← ha,bT,p];rfl
  exact R.atK (List.all_eq_true.1 hp av (cO p)) (hR i _ u this q)
 refine pG.mono fun e w1 ⟨v,G',he,q1,q2,q3,q4,q5,q6,q7,q8,q9⟩=>?_
 obtain ⟨yc,ok',hres⟩:=ok.qo (M:=M) (M':=M') hks (fun k o h=>⟨(adW k o h).2.2,_,(adW k o h).1⟩) hMk q1 q2 q3 q4 q5 q6 (bU hle) ag0 hkm
 refine ⟨v,yc,he,ok',hres res v hri q9,AV.SB hri fun i hi=>?_⟩
 show rhoC ks nk σ.nk i<σ.nk+(dh-nk)
 by_cases h:i<nk
 ·rw [WM i h]
  have:ks.getD i 0<σ.nk:=by
   exact aj3
  omega
 ·show (bif Nat.blt i nk then _ else _)<_
  rw [show Nat.blt i nk=false from by
   cases h2:Nat.blt i nk with
   | false=>rfl
   | true=>exact absurd (dP h2) h]
  show σ.nk+(i-nk)<_
  omega
def Yv:AV→Option (FuncId×List AV)
 | .fn f l=>some (f,l)
 | .sc (.func (.func f) ⟨[]⟩ ⟨[]⟩)=>some (f,[])
 | _=>none
theorem Dx {av:AV} {f:FuncId} {caps:List AV} {v:Value} (h:Yv av=some (f,caps))(r:R G av v):∃ cs:Array Value,v=.func (.func f) #[] cs∧cs.size=caps.length∧∀ (i:Nat) av u,caps[i]?=some av→cs[i]?=some u→R G av u:=by
 unfold Yv at h
 split at h
 ·cases h
  exact r.A8
 ·cases h
  exact⟨#[],r.fB,rfl,fun i av u x=>by simp at x⟩
 ·cases h
theorem IL {f:FuncId} {o:Oper} {y:Operand} {xs:Array Operand} {ts:Array TypeId} {cs:Array Value} {R':Ending→World→Prop} {N:Act→World→Prop} {Q':Exit→Act→World→Prop} (ho:o.op=.call { callee:=.value y,args:=xs,argTypes:=ts })(hc:∀ vs w,(callFunc f vs).run P w=.ok (.enter f vs) w)
  (ey:a.eval y=.func (.func f) #[] cs)(h:Calls P f (xs.toList.map a.eval++cs.toList).toArray w R')(hN:∀ e w1,R' e w1→∃ v,e=.returned v∧N (a.put o.dst v) w1):o.wp P a w N Q':=by
 refine lJ ?_
 have e3:(#[]++xs.map a.eval++cs:Array Value)=(xs.toList.map a.eval++cs.toList).toArray:=by apply Bz;simp
 simp only [ho,resolve,ey,Deferred.ofValue,invoke,Sem.run_bind,Sem.run_pure,Result.andThen_ok,hc,Oper.upon,e3]
 refine h.mono fun e w1 hr=>?_
 obtain⟨v,rfl,hn⟩:=hN e w1 hr
 exact hn
theorem Ok.agw (ok:Ok C σ G a w) {xs:Array Operand} {mg caps args':List AV} {cs:Array Value} (hx:σ.evs xs.toList=some mg)(h1:cs.size=caps.length)(h2:∀ (i:Nat)av u,caps[i]?=some av→cs[i]?=some u→R G av u)(ha:mg++caps=args') :
  (xs.toList.map a.eval++cs.toList).length=args'.length∧∀ (i:Nat)av u,args'[i]?=some av→(xs.toList.map a.eval++cs.toList)[i]?=some u→R G av u:=by
 obtain⟨e1,e2⟩:=ok.evl hx
 subst ha
 refine⟨by rw [aY,aY,e1];simpa using h1,fun i av u p q=>?_⟩
 by_cases hi:i<mg.length
 ·rw [qJ hi]at p
  rw [qJ (by omega)]at q
  exact e2 i av u p q
 ·rw [o8 (by omega)]at p
  rw [o8 (by omega),e1]at q
  exact h2 _ av u p rQ
theorem WO.qo (hB:Holds B gl C) {f:FuncId} {o:Oper} {y:Operand} {fv:AV} {xs:Array Operand} {ts:Array TypeId} {args mg caps args':List AV} {res res':AV} {M M':List (Nat×AO)} {nk dh:Nat} (ks:List Nat)(ho:o.op=.call { callee:=.value y,args:=xs,argTypes:=ts })(hc:∀ vs w,(callFunc f vs).run P w=.ok (.enter f vs) w)
  (hy:σ.ev y=some fv)(hf:Yv fv=some (f,caps))(hx:σ.evs xs.toList=some mg)(NV:mg++caps=args')(h:jI B gl P f args M nk res M' dh)(hks:ksB ks nk σ.nk=true)(ha:args.map (AV.ren (rhoC ks nk σ.nk))=args')(hp:args.all (AV.inn nk)=true)(hM:XY σ (rhoC ks nk σ.nk) nk M)
  (hle:Nat.ble nk dh=true)(ag0:M'.all (fun x=>x.2.inn dh)=true)(hkm:M'.all (fun x=>Nat.blt x.1 dh)=true)(hri:res.inn dh=true)(hr:res.ren (rhoC ks nk σ.nk)=res')(hd:UE C.N o.dst=true) :
  WO P C o σ ((⟨σ.t,Ec (rhoC ks nk σ.nk) M'++FD ks σ.M,σ.nk+(dh-nk)⟩:St).set o.dst res'):=by
 intro G a w ok N Q' hN
 obtain⟨cs,ey,h1,h2⟩:=Dx hf (ok.nO hy).2
 obtain⟨hl,hR⟩:=ok.agw hx h1 h2 NV
 refine IL ho hc ey (ok.axZ hB ks hl hR h hks ha hp hM hle ag0 hkm hri hr) fun e w1⟨v,yc,he,ok',hr',hb⟩=>⟨v,he,hN _ _ _ (ok'.set hr' hb (Jt hd))⟩
theorem WV.yU (hB:Holds B gl C) {f:FuncId} {o:Oper} {y:Operand} {fv:AV} {xs:Array Operand} {ts:Array TypeId} {mg caps args':List AV} {res:AV} (ho:o.op=.call { callee:=.value y,args:=xs,argTypes:=ts }) (hc:∀ vs w,(callFunc f vs).run P w=.ok (.enter f vs) w)
  (hy:σ.ev y=some fv) (hf:Yv fv=some (f,caps)) (hx:σ.evs xs.toList=some mg) (NV:mg++caps=args') (hp:args'.all AV.pu2=true) (h:kJ B P f args' res):WV P C o σ res:=by
 intro G a w ok N Q' hN
 obtain ⟨cs,ey,h1,h2⟩:=Dx hf (ok.nO hy).2
 obtain ⟨hl,hR⟩:=ok.agw hx h1 h2 NV
 refine IL ho hc ey (h w G.F _ (hB.1 w G.F ok.bel ok.f0) ok.fw ⟨hl,fun i av u p q=>(oC (List.all_eq_true.1 hp av (cO p)) 0).rp (hR i av u p q)⟩) fun e w1 ⟨v,F',he,hb,q1,q2,q3,q4⟩=>?_
 exact ⟨v,he,hN v _ w1 (fun Dk a'' Fj=>Fj.called hb q1 q2 q3) (.pu _ _ q4) (q4.bd _)⟩
theorem WV.mkf {f:FuncId} {o:Oper} {xs:Array Operand} {caps:List AV} (ho:o.op=.makeFunc (.func f) #[] xs)(hx:σ.evs xs.toList=some caps):WV P C o σ (.fn f caps) :=
 WV.val (fun G a w ok=>.fn f _ fun i x hx2=>by
  have:∀ {xs:List Operand} {l:List AV},σ.evs xs=some l→∀ (i:Nat) x,l[i]?=some x→Bd σ.nk x:=fun {xs}=>by
   induction xs with
   | nil=>intro l h i x hx;cases h;simp at hx
   | cons y r ih =>
    intro l h i x hx
    unfold St.evs at h
    cases h1:σ.ev y with
    | none=>simp [h1] at h
    | some av =>
     cases h2:σ.evs r with
     | none=>simp [h1,h2] at h
     | some l' =>
      simp [h1,h2] at h
      subst h
      cases i with
      | zero=>cases hx;exact (ok.nO h1).1
      | succ i=>exact ih h2 i x (by simpa using hx)
  exact this hx i x hx2) fun G a w ok=>by
  obtain⟨e1,e2⟩:=ok.evl hx
  refine⟨.func (.func f) #[] (xs.map a.eval),by unfold execOp;simp [ho,Instr.makeFunc],.fn f _ _ (by simpa using e1) fun i av u p q=>e2 i av u p (by rw [← q];simp)⟩
theorem WV.X4 {o:Oper} {x:Operand} {k i j:Nat} (ho:o.op=.nilCheck x)(hx:σ.ev x=some (.pt k i j)):WV P C o σ (.pt k i j) :=
 WV.val (fun G a w ok=>(ok.nO hx).1) fun G a w ok=>by
  obtain⟨p,ep,p1,p2,p3⟩:=(ok.nO hx).2.lV
  exact⟨_,by unfold execOp;simp [ho,ep],.pt k i j p p1 p2 p3⟩
end
section
variable {B:World→View→Prop} {gl:Nat} {P:Program} {C:Cx} {ops:Array Oper} {o:Oper} {rest:List Oper} {Q:Exit→St→Prop} {d:Tmp}
def Uu (σ:St):Op→Option (FuncId×List AV)
 | .call { callee:=.value y,args:=⟨xs⟩,argTypes:=_ } =>
  match σ.ev y,σ.evs xs with
  | some fv,some mg =>
   match Yv fv with
   | some (f,caps)=>some (f,mg++caps)
   | none=>none
  | _,_=>none
 | _=>none
theorem WL.qo (hB:Holds B gl C) {f:FuncId} {args args':List AV} {res res':AV} {M M' M2:List (Nat×AO)} {nk dh n2:Nat} {t:List (Nat×AV)} {M0:List (Nat×AO)} {n0:Nat} (ks:List Nat) (hg:o.guard=none) (he:Uu ⟨t,M0,n0⟩ o.op=some (f,args')) (hc:∀ vs w,(callFunc f vs).run P w=.ok (.enter f vs) w)
  (h:jI B gl P f args M nk res M' dh) (hks:ksB ks nk n0=true) (ha:args.map (AV.ren (rhoC ks nk n0))=args') (hp:args.all (AV.inn nk)=true) (hM:XY ⟨t,M0,n0⟩ (rhoC ks nk n0) nk M)
  (hq:(Nat.ble nk dh && M'.all (fun x=>x.2.inn dh) && M'.all (fun x=>Nat.blt x.1 dh) && res.inn dh && UE C.N o.dst)=true) (hr:res.ren (rhoC ks nk n0)=res') (hM2:Ec (rhoC ks nk n0) M'++FD ks M0=M2) (hn2:n0+(dh - nk)=n2)
  (k:WL P C ops rest ((⟨t,M2,n2⟩:St).set o.dst res') Q):WL P C ops (o::rest) ⟨t,M0,n0⟩ Q:=by
 subst hM2 hn2
 simp only [aW] at hq
 refine WL.op hg ?_ k
 unfold Uu at he
 split at he
 ·rename_i y xs ts ho
  split at he
  ·rename_i fv mg hy hx
   split at he
   ·rename_i f' caps hf
    cases he
    exact WO.qo (σ:=⟨t,M0,n0⟩) (xs:=⟨xs⟩) hB ks ho hc hy hf hx rfl h hks ha hp hM hq.1.1.1.1 hq.1.1.1.2 hq.1.1.2 hq.1.2 hr hq.2
   ·cases he
  ·cases he
 ·cases he
end
def bsL:List Int:=[0,2,4,5,7,9,11]
def ftL:List Int:=[0,2,4,-1,1,3,5]
def vg(l:Int):Int:=bsL.getD l.toNat 0
def ftV(l:Int):Int:=ftL.getD l.toNat 0
def yO(l al o:Int):Int:=12*(o+1)+vg l+al
def wO(l al o:Int):Prop:=(0≤l∧l≤6)∧(-1≤al∧al≤1)∧-1≤o∧o≤9
instance (l al o:Int):Decidable (wO l al o):=by unfold wO;exact inferInstance
def jG (l al o:Int):Bool:=decide (wO l al o) && decide (0≤yO l al o∧yO l al o≤127)
def afq(l al o:Int):Int:=if jG l al o=true then yO l al o else 0
def ai1(l al o:Int):Int:=if jG l al o=true then 0 else 10
theorem qW {l al o:Int} (h:jG l al o=true):afq l al o=yO l al o∧ai1 l al o=0:=⟨if_pos h,if_pos h⟩
theorem vJ {l al o:Int} (h:jG l al o=false):afq l al o=0∧ai1 l al o=10:=⟨if_neg EC,if_neg EC⟩
theorem afp {l al o:Int} (h:¬ wO l al o):jG l al o=false:=by unfold jG;rw [cZ h];rfl
theorem WW {l al o:Int} (h:wO l al o):jG l al o=decide (0≤yO l al o∧yO l al o≤127):=by unfold jG;rw [dG h];rfl
theorem LH {l al o:Int} (h:jG l al o=true):wO l al o∧0≤yO l al o∧yO l al o≤127:=by
 unfold jG at h
 simpa using h
theorem arN:((List.range 7).all fun k=>decide (0≤vg k∧vg k≤11))=true:=by decide
theorem QK {l:Int} (h:0≤l∧l≤6):0≤vg l∧vg l≤11:=by
 obtain⟨k,rfl⟩:=gq h.1
 have:=List.all_eq_true.1 arN k (List.mem_range.2 au)
 exact ng
theorem ash:((List.range 7).all fun k=>decide (-1≤ftV k∧ftV k≤5))=true:=by decide
theorem asg {l:Int} (h:0≤l∧l≤6):-1≤ftV l∧ftV l≤5:=by
 obtain⟨k,rfl⟩:=gq h.1
 have:=List.all_eq_true.1 ash k (List.mem_range.2 au)
 exact ng
theorem aa2 {l:Int} (h:0≤l∧l≤6):bsL[l.toNat]?=some (vg l):=by
 obtain⟨k,rfl⟩:=gq h.1
 have:k<bsL.length:=by simp [bsL];omega
 unfold vg
 exact akL
theorem asf {l:Int} (h:0≤l∧l≤6):ftL[l.toNat]?=some (ftV l):=by
 obtain⟨k,rfl⟩:=gq h.1
 have:k<ftL.length:=by simp [ftL];omega
 unfold ftV
 exact akL
def apX (key l al:Int):Bool:=decide (key-3≤ftV l+7*al∧ftV l+7*al≤key+8)
def spC (p key l al o:Int):Bool:=apX key l al && (jG l al o && decide (yO l al o=p))
def spO(p l al:Int):Int:=(p-al-vg l+12)/12-2
def spN (p key:Int) (n:Nat):Bool:=spC p key ((n/3:Nat):Int) (((n % 3:Nat):Int)-1) (spO p ((n/3:Nat):Int) (((n % 3:Nat):Int)-1))
def spP (p key:Int):Option (Int×Int×Int):=((List.range 21).find? (spN p key)).map fun n=>(((n/3:Nat):Int),((n % 3:Nat):Int)-1,spO p ((n/3:Nat):Int) (((n % 3:Nat):Int)-1))
theorem amZ {N n:Nat} {f:Nat→Bool} (h:∀ m,m<n→f m=false)(hn:f n=true)(hN:n<N):(List.range N).find? f=some n:=by
 rw [List.find?_range_eq_some]
 exact⟨hn,List.mem_range.2 hN,fun m hm=>by simp [h m hm]⟩
theorem am0 {N:Nat} {f:Nat→Bool} (h:∀ m,m<N→f m=false):(List.range N).find? f=none:=by
 rw [yx]
 intro m hm
 simp [h m (List.mem_range.1 hm)]
theorem atT {p key:Int} {r:Int×Int×Int} (h:spP p key=some r):jG r.1 r.2.1 r.2.2=true∧yO r.1 r.2.1 r.2.2=p:=by
 unfold spP at h
 obtain⟨n,h1,rfl⟩:=Option.map_eq_some_iff.1 h
 have:=Ia h1
 unfold spN spC at this
 simp only [aW,gu]at this
 exact⟨this.2.1,this.2.2⟩
def spX(p key:Int):Int:=if ¬ (0≤p∧p≤127)then 10 else if ¬ (-4≤key∧key≤4)then 1 else if(spP p key).isSome=true then 0 else 10
def yP (p key:Int):Int×Int×Int:=if spX p key=0 then (spP p key).getD (0,0,0)else (0,0,0)
def eSp (r:Int×Int×Int):AV:=.ag [.sc (.int .i64 r.1),.sc (.int .i64 r.2.1),.sc (.int .i64 r.2.2)]
theorem WZ {p key:Int} (h:¬ (0≤p∧p≤127)):spX p key=10∧yP p key=(0,0,0):=by
 have:spX p key=10:=if_pos h
 exact aaK
theorem ai2 {p key:Int} (h:0≤p∧p≤127)(h2:¬ (-4≤key∧key≤4)):spX p key=1∧yP p key=(0,0,0):=by
 have:spX p key=1:=by unfold spX;rw [if_neg (fun k=>k h),if_pos h2]
 exact aaK
theorem acE {p key:Int} (h:0≤p∧p≤127)(h2:-4≤key∧key≤4)(h3:spP p key=none):spX p key=10∧yP p key=(0,0,0):=by
 have:spX p key=10:=by unfold spX;rw [if_neg (fun k=>k h),if_neg (fun k=>k h2),h3];rfl
 exact aaK
theorem acF {p key:Int} {r:Int×Int×Int} (h:0≤p∧p≤127)(h2:-4≤key∧key≤4)(h3:spP p key=some r):spX p key=0∧yP p key=r:=by
 have:spX p key=0:=by unfold spX;rw [if_neg (fun k=>k h),if_neg (fun k=>k h2),h3];rfl
 exact⟨this,by unfold yP;rw [if_pos this,h3];rfl⟩
theorem W9:((List.range 128).all fun p=>(spP p 0).isSome)=true:=by decide +kernel
theorem aoS {p:Int} (h:0≤p∧p≤127):∃ r,spP p 0=some r:=by
 obtain⟨n,rfl⟩:=gq h.1
 exact Option.isSome_iff_exists.1 (List.all_eq_true.1 W9 n (List.mem_range.2 au))
def YT:List UInt8:=[67,68,69,70,71,65,66]
def sgn(al:Int):List UInt8:=if al=1 then [35]else if al=-1 then [98]else []
def nmT (l al o:Int):List UInt8:=cut YT l (l+1)++sgn al++Lib.itoa o
def nmA(l al o:Int):List UInt8:=if jG l al o=true then nmT l al o else []
def QW (c:Int×Int×Bool):List UInt8:=nmT (yP c.1 0).1 (yP c.1 0).2.1 (yP c.1 0).2.2++[47]++Lib.itoa c.2.1++(if c.2.2 then [43]else [])++[32]
def uF (cs:List (Int×Int×Bool)):List UInt8:=(cs.map QW).flatten
def afw(n:Int):List UInt8:=[32]++Lib.itoa n
def wP(st:List Int):List UInt8:=(st.map afw).flatten
def Ug (cs:List (Int×Int×Bool))(st:List Int):List UInt8:=uF cs++[58]++wP st
theorem Yi {cs:List (Int×Int×Bool)} {k:Nat} (h:k<cs.length):uF (cs.take (k+1))=uF (cs.take k)++QW cs[k]:=by
 unfold uF
 exact akO
theorem Z8 {st:List Int} {k:Nat} (h:k<st.length):wP (st.take (k+1))=wP (st.take k)++afw st[k]:=by
 unfold wP
 exact akO
theorem vw:∀ (k u:Nat),u<10 ^ (k+1)→(Lib.decDigits u).length≤k+1
 | 0,u,h=>by rw [Lib.decDigits,dif_pos rP];simp
 | k+1,u,h=>by
  rw [Lib.decDigits]
  split
  ·simp
  ·have h2:u/10<10 ^ (k+1):=by rw [Nat.div_lt_iff_lt_mul (by omega)];rw [Nat.pow_succ] at h;exact h
   have:=vw k (u/10) h2
   rw [aY];simp;omega
theorem vY {n:Int} (h:-9223372036854775808≤n∧n≤9223372036854775807):(Lib.itoa n).length≤20:=by
 unfold Lib.itoa
 split
 ·have:=vw 18 n.natAbs au
  simp;omega
 ·have:=vw 18 n.toNat au
  omega
theorem itoa_neg (n:Int)(h:n<0):Lib.itoa n=[45]++Lib.itoa (0-n):=by
 unfold Lib.itoa
 rw [if_pos h,if_neg (by omega)]
 rw [show n.natAbs=(0-n).toNat by omega]
 rfl
theorem abR {l al o:Int} (h:jG l al o=true):(nmT l al o).length≤22:=by
 have h1:=(LH h).1
 unfold wO at h1
 have h2:=vY (n:=o) au
 have h3:(cut YT l (l+1)).length≤1:=by simp only [cut,fP,yB];omega
 have h4:(sgn al).length≤1:=by unfold sgn;split<;>(try split)<;>simp
 unfold nmT
 exact TP
theorem Z4 {p:Int} (h:0≤p∧p≤127):spX p 0=0∧jG (yP p 0).1 (yP p 0).2.1 (yP p 0).2.2=true:=by
 obtain ⟨r,hr⟩:=aoS h
 obtain ⟨h1,h2⟩:=acF h ⟨by omega,by omega⟩ hr
 rw [h2]
 exact ⟨h1,(atT hr).1⟩
theorem agk {c:Int×Int×Bool} (h:0≤c.1∧c.1≤127) (h2:0≤c.2.1∧c.2.1≤18):(QW c).length≤46:=by
 have h1:=abR (Z4 h).2
 have h3:=vY (n:=c.2.1) au
 have h4:(if c.2.2=true then ([43]:List UInt8)else []).length≤1:=by split<;>simp
 unfold QW
 exact ac9
theorem ET {α:Type} {f:α→List UInt8} {b:Nat}:∀ {l:List α},(∀ x∈l,(f x).length≤b)→((l.map f).flatten).length≤b*l.length
 | [],_=>by simp
 | x::r,h=>by
  have h1:=h x (by simp)
  have h2:=ET (l:=r) (b:=b) (f:=f) fun y hy=>h y BK
  simp only [wR,BD,aY,iw,Nat.mul_succ];omega
def stM (s c f:Int)(l:List UInt8)(L:Int)(r g h:Nat):Bool:=decide (r≤3∧g≤4∧(h:Int)≤L∧(0<h→f≠0)) && (dK s c f r g h L && cellS s c f r g h L == l)
theorem xX {s c f:Int} {l:List UInt8} {L:Int} {r g h:Nat} (x:stM s c f l L r g h=true):(r≤3∧g≤4∧(h:Int)≤L∧(0<h→f≠0))∧dK s c f r g h L=true∧cellS s c f r g h L=l:=by
 unfold stM at x
 rw [aW,aW]at x
 exact⟨iY x.1,x.2.1,by simpa using x.2.2⟩
theorem atV {s c f:Int} {l:List UInt8} {L:Int} {r g h:Nat} (a:r≤3∧g≤4∧(h:Int)≤L∧(0<h→f≠0))(b:dK s c f r g h L=true)(d:cellS s c f r g h L=l):stM s c f l L r g h=true:=by
 unfold stM
 rw [aW,aW]
 exact⟨dG a,b,by simpa using d⟩
theorem Oe {w:World} {B e size n:Nat} {v:Value} {xs:List Value} (h:w.ownsRowF B e size v n xs):w.ownsRowF 0 e size v n xs:=by
 refine ⟨h.1,?_⟩
 rcases h.2 with x|⟨g,cap,cur,fz,e,hb,r⟩
 ·exact .inl x
 ·exact .inr ⟨g,cap,cur,fz,e,gU _,r⟩
theorem Un {P:Program} (w:World) (t u ty e:TypeId) (i:TypeInfo) (ht:P.underlying t=some (.slice e)) (hu:P.underlying u=some .string) (hi:P.info? e=some i) (hz:i.zero=some (.int .u8 0)) (hs1:i.size=1) (hby:i.bytes=1)
  (v:Value) (n:Nat) (xs:List Value) (hown:w.ownsRowF 0 e 1 v n xs) (s:ByteArray) (hb:n+s.size≤1000000000) :
  ∃ v' w',(Builtin.append_ #[t,u] ty #[v,.string s]).run P w=.ok v' w'∧w'.ownsRowF 0 e 1 v' (n+s.size) (xs++Lib.strCells s)∧w.grownBy w' v.ownBlock∧∀ g,v'.ownBlock=some g→v.ownBlock=some g∨w.heap.size≤g:=by
 rcases hown.2 with⟨rfl,rfl⟩|⟨g,cap,cur,fz,rfl,hbg,hg,hfz,hnc,hcm,hcs,htake⟩
 ·obtain ⟨v',w',h1,h2,h3,_⟩:=Lib.run_append_own_stringF (P:=P) w w.heap.size t u ty e i ht hu hi hz hs1 hby (.slice none 0 0) 0 xs ⟨hown.1,.inl ⟨rfl,rfl⟩⟩ s XF au (bJ _)
  exact ⟨v',w',h1,Oe h2,h3,fun g hg=>.inr (h2.lt g hg).1⟩
 ·obtain ⟨v',w',h1,h2,h3,_⟩:=Lib.run_append_own_stringF (P:=P) w 0 t u ty e i ht hu hi hz hs1 hby _ n xs hown s XF au (gU _)
  refine ⟨v',w',h1,h2,h3,fun g' hg'=>?_⟩
  have hxl:xs.length=n:=by simpa using hown.1
  have hcs1:cur.size=cap:=by simpa using hcs
  by_cases hroom:n+s.size≤cap
  ·have hr:=Lib.run_append_room_stringF (P:=P) w t u ty e i ht hu hi hs1 g n cap cur fz hg (by simpa using hfz) s hroom (by omega)
   rw [hr] at h1
   cases h1
   exact .inl hg'
  ·have hr:=Lib.run_append_grow_string (P:=P) w t u ty e i (.int .u8 0) ht hu hi hz ⟨g,0,none⟩ n cap xs (by rw [hs1];simpa using hxl) (hown.cells (g:=g) rfl) s (by omega) (by omega) (by rw [hby];exact growslice_fits (by omega) (by omega))
   rw [hr] at h1
   cases h1
   simp [Value.ownBlock] at hg'
   right;omega
theorem Ol {P:Program} {o:Oper} {a:Act} {w w':World} {x y:Operand} {T U:TypeId} {s:ByteArray} {v v':Value} {N:Act→World→Prop} {Q':Exit→Act→World→Prop} (ho:o.op=.call { callee:=.builtin .append,args:=#[x,y],argTypes:=#[T,U] })(ex:a.eval x=v)(ey:a.eval y=.string s)
  (hrun:(Builtin.append_ #[T,U] o.type #[v,.string s]).run P w=.ok v' w')(hN:N (a.put o.dst v') w'):o.wp P a w N Q':=by
 refine lJ ?_
 have hargs:(#[x,y]:Array Operand).map a.eval=#[v,.string s]:=by simp [ex,ey]
 simp only [ho,resolve,invoke,builtin,Sem.run_bind,Sem.run_pure,Result.andThen_ok,hargs,hrun,Oper.upon]
 exact hN
theorem Xf (s:List UInt8):Lib.strCells (bs s)=Lib.byteCells s:=by
 unfold Lib.strCells Lib.byteCells
 rfl
theorem aa5:(Tryz.prog.info? 103).map (·.size)=some 2:=by kernel_rfl
theorem amD:liesAt Tryz.prog Tryz.prog.depth 103 (2/Tryz.prog.cellsOf 103) 0 103 1=true:=by kernel_rfl
theorem af4:(Tryz.prog.info? 5).map (fun i=>(i.zero,i.size,i.bytes))=some (some (.int .u8 0),1,1):=by kernel_rfl
theorem Ut:Tryz.prog.cellsOf 5=1:=by kernel_rfl
theorem NP (b:Nat) (w:World) (h0:w.cell? ⟨b,0,none⟩=some (.pointer (some ⟨b,0,none⟩))) :
  Calls Tryz.prog 109 #[.pointer (some ⟨b,0,none⟩)] w fun e w'=>e=.returned (.tuple #[])∧w'=w:=by
 obtain ⟨j,hj,_⟩:=Option.map_eq_some_iff.1 aa5
 go_enter Tryz.func109,Tryz.ntmps109
 go_wp2
 rw [Lib.run_neq_ptr_same w _ Tryz.underlying100 hj]
 go_wp2
 go_end0
 exact ⟨rfl,rfl⟩
theorem Jm (b:Nat) (w:World) (h0:w.cell? ⟨b,0,none⟩=some (.pointer none)) (hsh:w.shape? b=some (103,2)) (hfz:w.frozen? ⟨b,0,none⟩=false) :
  Calls Tryz.prog 109 #[.pointer (some ⟨b,0,none⟩)] w fun e w'=>e=.returned (.tuple #[])∧w'=w.setCell ⟨b,0,none⟩ (.pointer (some ⟨b,0,none⟩)):=by
 obtain ⟨j,hj,hjs⟩:=Option.map_eq_some_iff.1 aa5
 go_enter Tryz.func109,Tryz.ntmps109
 go_wp2
 rw [Lib.run_to_unsafe w ⟨b,0,none⟩ Tryz.underlying100 Tryz.underlying263 hj (by rw [hjs];decide) hsh (Nat.zero_lt_succ 1)]
 simp only [Result.andThen]
 rw [Oper.upon_value]
 go_wp2
 rw [run_callFunc_extern Tryz.func175 bD bD bD (e:=Extern.AbiNoEscape.same) bD]
 rw [Lib.run_noEscape]
 simp only [Result.andThen]
 rw [Oper.upon_value]
 go_wp2
 rw [Lib.run_from_unsafe w ⟨b,0,none⟩ Tryz.underlying263 Tryz.underlying100 hj hsh amD]
 simp only [Result.andThen]
 rw [Oper.upon_value]
 go_wp2
 go_end0
 exact ⟨rfl,rfl⟩
theorem af2 (w:World) (b:Nat) (p v:Value) (hp:p=.pointer none∨p=.pointer (some ⟨b,0,none⟩)) (hbk:w.heap[b]?=some (.cells #[p,v] 103 (0,0))) :
  Calls Tryz.prog 109 #[.pointer (some ⟨b,0,none⟩)] w fun e w'=>e=.returned (.tuple #[])∧w'.heap[b]?=some (.cells #[.pointer (some ⟨b,0,none⟩),v] 103 (0,0))∧Kept (fun x=>x=b) w w'∧w'.heap.size=w.heap.size:=by
 have c0:w.cell? ⟨b,0,none⟩=some p:=by rw [Lib.cell_of_heap hbk];rfl
 rcases hp with rfl|rfl
 ·refine (Jm b w c0 (by simp [World.shape?,hbk]) (Lib.frozen_of_heap hbk 0)).mono ?_
  rintro e w' ⟨rfl,rfl⟩
  refine ⟨rfl,heap_setCell_same w b 0 _ _ _ hbk,⟨rfl,rfl,rfl,by simp [World.setCell],fun k hk hne=>heap_setCell_other w _ k _ hne⟩,by simp [World.setCell]⟩
 ·refine (NP b w c0).mono ?_
  rintro e w' ⟨rfl,rfl⟩
  exact ⟨rfl,hbk,Kept.refl _ _,rfl⟩
theorem uD:arH Tryz.prog 53 103 5:=by
 intro w b φ l s hφ h hl
 obtain ⟨p,v,hp,hbk,hown,hfp⟩:=h
 obtain ⟨i0,hi,hz0,hz1,hz2⟩:=info_parts (P:=Tryz.prog) af4
 have hblt:b < w.heap.size:=(Array.getElem?_eq_some_iff.1 hbk).1
 go_enter Tryz.func53,Tryz.ntmps53
 go_wp2_with (go_at_call 109;refine (af2 w b p v hp hbk).mono ?_)
 rintro e w1 ⟨rfl,hb1,hk1,hs1⟩
 have hown1:w1.ownsRowF 0 5 1 v l.length (Lib.byteCells l):=vG hown fun g hg=>hk1.block g (hown.lt g hg).2 (fun e=>(hfp g hg).2 e)
 have c0:w1.cell? ⟨b,0,none⟩=some (.pointer (some ⟨b,0,none⟩)):=by rw [Lib.cell_of_heap hb1];rfl
 have c1:w1.cell? ⟨b,1,none⟩=some v:=by rw [Lib.cell_of_heap hb1];rfl
 obtain ⟨v',w2,hrun,hown',hgrow,hnew⟩:=Un (P:=Tryz.prog) w1 101 9 101 5 i0 Tryz.underlying101 Tryz.underlying9 hi hz0 hz1 hz2 v l.length _ hown1 (bs s) Qs
 obtain ⟨ao,n',cap,rfl⟩:∃ ao n' cap,v'=.slice ao n' cap:=by
  rcases hown'.2 with ⟨hv,_⟩|⟨g,cap,cur,fz,hv,_⟩
  ·exact ⟨_,_,_,hv⟩
  ·exact ⟨_,_,_,hv⟩
 have hb2:w2.heap[b]?=some (.cells #[.pointer (some ⟨b,0,none⟩),v] 103 (0,0)):=by
  rw [hgrow.block b (by omega) (fun e=>(hfp b e.symm).2 rfl)]
  exact hb1
 have d0:w2.cell? ⟨b,0,none⟩=some (.pointer (some ⟨b,0,none⟩)):=by rw [Lib.cell_of_heap hb2];rfl
 have d1:w2.cell? ⟨b,1,none⟩=some v:=by rw [Lib.cell_of_heap hb2];rfl
 have f1:w2.frozen? ⟨b,1,none⟩=false:=Lib.frozen_of_heap hb2 1
 have hsz:w.heap.size≤w2.heap.size:=by have:=hgrow.size;omega
 have hvb:∀ g,(Value.slice ao n' cap).ownBlock=some g→φ g∨(w.heap.size≤g∧g < w2.heap.size):=fun g hg=>by
  rcases hnew g hg with h|h
  ·exact .inl (hfp g h).1
  ·exact .inr ⟨by omega,(hown'.lt g hg).2⟩
 have avW:∀ g,(Value.slice ao n' cap).ownBlock=some g→g≠b:=fun g hg e=>by
  rcases hnew g hg with h|h
  ·exact (hfp g h).2 e
  ·omega
 go_wp2_with (at_builtin;refine wpList_plain rfl fun K hK=>Ol rfl rfl rfl hrun (hK _ _ ?_))
 go_ret2
 refine ⟨by rw [bY];rfl,⟨?_,?_,?_,by simp [World.setCell];exact hsz,fun k hk hn=>?_⟩,.pointer (some ⟨b,0,none⟩),.slice ao n' cap,.inr rfl,?_,?_,fun g hg=>⟨?_,avW g hg⟩⟩
 ·exact hgrow.os.trans hk1.os
 ·exact hgrow.tape.trans hk1.tape
 ·exact hgrow.output.trans hk1.output
 ·have hkb:k≠b:=fun e=>hn (e ▸ hφ)
  simp only [World.setCell,aau]
  rw [if_neg (fun h=>hkb h.symm),hgrow.block k (by omega) (fun e=>hn (hfp k e.symm).1)]
  exact hk1.block k hk hkb
 ·exact heap_setCell_same w2 b 1 _ _ _ hb2
 ·have:=vG (w':=w2.setCell ⟨b,1,none⟩ (.slice ao n' cap)) hown' fun g hg=>by
   simp only [World.setCell,aau]
   rw [if_neg (fun h=>avW g hg h.symm)]
  rw [bY] at this
  simpa [Xf,Lib.byteCells,aY] using this
 ·rcases hvb g hg with h|h
  ·exact .inl h
  ·exact .inr ⟨h.1,by simpa [World.setCell] using h.2⟩
theorem aa4:arG Tryz.prog 55 103 5:=by
 intro w b φ l hφ h h0
 obtain ⟨p,v,hp,hbk,hown,hfp⟩:=h
 have hl0:l.length≠0:=by simpa using h0
 obtain ⟨g,cap,cur,fz,rfl,hbg,hg,hfz,hnc,hcm,hcs,htake⟩:∃ g cap cur fz,v=.slice (some ⟨g,0,none⟩) l.length cap∧0≤g∧w.heap[g]?=some (.cells cur 5 fz)∧fz.2≤l.length*1∧l.length≤cap∧cap≤maxLen∧cur.size=cap*1∧cur.toList.take (l.length*1)=Lib.byteCells l:=by
  rcases hown.2 with⟨_,hz⟩|⟨g,cap,cur,fz,hv,r⟩
  ·exact absurd hz hl0
  ·exact ⟨g,cap,cur,fz,hv,r⟩
 have hgb:g≠b:=(hfp g rfl).2
 have c1:w.drew.cell? ⟨b,1,none⟩=some (.slice (some ⟨g,0,none⟩) l.length cap):=by
  have:w.drew.heap[b]?=some (.cells #[p,.slice (some ⟨g,0,none⟩) l.length cap] 103 (0,0)):=hbk
  rw [Lib.cell_of_heap this];rfl
 have hUS:(Builtin.unsafeString_ #[191,3] 9 #[.pointer (some ⟨g,0,none⟩),.int .i64 l.length]).run Tryz.prog w.drew=.ok (.string ⟨l.toArray⟩) (w.drew.freeze ⟨g,0,none⟩ l.length):=by
  have hg':w.drew.heap[g]?=some (.cells cur 5 fz):=hg
  refine Lib.run_unsafeString_row w.drew 191 3 9 5 Tryz.underlying191 Ut g cur.size (by simp [World.shape?,hg']) l h0 (by omega) (by unfold maxLen at hcm;omega) ?_
  intro j x hx
  exact hown.cells (g:=g) rfl j (.int .u8 x.toNat) (by simp [Lib.byteCells,hx])
 have hSD:(Builtin.unsafeSliceData_ #[101] 191 #[.slice (some ⟨g,0,none⟩) l.length cap]).run Tryz.prog w.drew=.ok (.pointer (some ⟨g,0,none⟩)) w.drew :=
  Lib.run_unsafeSliceData_row _ _ _ _ _ _ au
 have hother:∀ k,k≠g→(w.drew.freeze ⟨g,0,none⟩ l.length).heap[k]?=w.heap[k]?:=fun k hk=>by
  unfold World.freeze
  rw [if_neg hl0]
  simp only [aau]
  rw [if_neg (fun h=>hk h.symm)]
  rfl
 have hsize:(w.drew.freeze ⟨g,0,none⟩ l.length).heap.size=w.heap.size:=by
  unfold World.freeze
  rw [if_neg hl0]
  simp only [Array.size_modify]
  rfl
 have hkept:Kept φ w (w.drew.freeze ⟨g,0,none⟩ l.length):=by
  refine ⟨?_,?_,?_,Nat.le_of_eq hsize.symm,fun k hk hn=>hother k fun e=>hn (e ▸ (hfp g rfl).1)⟩
  all_goals (unfold World.freeze;rw [if_neg hl0];rfl)
 have ayw:Ji (w.drew.freeze ⟨g,0,none⟩ l.length) 103 5 b (fun x=>φ x∨(w.heap.size≤x∧x<(w.drew.freeze ⟨g,0,none⟩ l.length).heap.size)) l:=by
  have hA:Lib.BuilderAtF 103 5 0 b p (Lib.byteCells l) w.drew:=⟨gU _,_,hbk,by rw [Lib.byteCells_length];exact hown,fun e=>(hfp b e).2 rfl⟩
  obtain ⟨_,v2,hb2,hown2,_⟩:=hA.froze (g:=g) (cap:=cap) (by rw [Lib.byteCells_length];exact c1)
  rw [Lib.byteCells_length] at hb2 hown2
  rw [hother b (fun e=>hgb e.symm),hbk] at hb2
  have ev:v2=.slice (some ⟨g,0,none⟩) l.length cap:=by
   simp only [Option.some.injEq,Obj.cells.injEq] at hb2
   have:=hb2.1
   simp at this
   exact this.symm
  subst ev
  exact ⟨p,_,hp,(hother b (fun e=>hgb e.symm)).trans hbk,hown2,fun x hx=>⟨.inl (hfp x hx).1,(hfp x hx).2⟩⟩
 have mixed:Tryz.prog.follows .mixedOrders=true:=by kernel_rfl
 go_enter Tryz.func55,Tryz.ntmps55
 go_wp2
 go_region_o
 all_goals (go_wp2;go_ret;exact ⟨rfl,hkept,ayw⟩)
section
variable {P:Program} {C:Cx} {σ σ':St} {o:Oper} {d:Tmp} {ops:Array Oper} {rest:List Oper} {Q:Exit→St→Prop}
structure axU where
 e:TypeId
 z:Value
 m:Int
 n:Int
def aBu (P:Program) (σ:St):Op→Option axU
 | .makeSlice T x y =>
  match P.underlying T,σ.ev x,σ.ev y with
  | some (.slice e),some (.sc (.int _ m)),some (.sc (.int _ n)) =>
   match P.info? e with
   | some i =>
    match i.zero with
    | some z=>bif z.oneCell' && Nat.beq i.size 1 && Nat.ble i.bytes 1000 then some ⟨e,z,m,n⟩else none
    | none=>none
   | none=>none
  | _,_,_=>none
 | _=>none
def ace (P:Program)(σ:St):Op→Option (Nat×List (List AV)×Int×Int)
 | .slice T x lo hi none =>
  match P.underlying T,σ.ev x with
  | some (.slice e),some (.ls n rows) =>
   match iE P e with
   | some m =>
    bif Nat.beq m n then
     match lo,hi with
     | none,none=>some (n,rows,0,rows.length)
     | some y,none =>
      match σ.ev y with
      | some (.sc (.int _ i))=>some (n,rows,i,rows.length)
      | _=>none
     | none,some z =>
      match σ.ev z with
      | some (.sc (.int _ j))=>some (n,rows,0,j)
      | _=>none
     | some y,some z =>
      match σ.ev y,σ.ev z with
      | some (.sc (.int _ i)),some (.sc (.int _ j))=>some (n,rows,i,j)
      | _,_=>none
    else none
   | none=>none
  | _,_=>none
 | _=>none
def prt {α:Type} (l:List α)(i j:Int):List α:=(l.take j.toNat).drop i.toNat
theorem ZV {T e n:Nat} (hT:P.underlying T=some (.slice e)) (hn:iE P e=some n) (A:Option Addr) (len cap:Nat) (lo hi:Option Value) (i j:Int) (w:World)
  (hlo:(∃ k,lo=some (.int k i))∨(lo=none∧i=0)) (hhi:(∃ k,hi=some (.int k j))∨(hi=none∧j=len)) (hb:0≤i∧i≤j∧j≤len) (hc:len≤cap) :
  (Instr.slice T (.slice A len cap) lo hi none).run P w=.ok (.slice (if cap=i.toNat then A else A.map (·.add (i.toNat*n))) (j.toNat-i.toNat) (cap-i.toNat)) w:=by
 obtain ⟨i,rfl⟩:∃ q:Nat,i=q:=⟨i.toNat,by omega⟩
 obtain ⟨j,rfl⟩:∃ q:Nat,j=q:=⟨j.toNat,by omega⟩
 have h1:0≤(j:Int)∧(j:Int)≤(cap:Int):=by omega
 have h2:0≤(i:Int)∧(i:Int)≤(j:Int):=by omega
 rcases hlo with⟨k,rfl⟩|⟨rfl,hi⟩<;>rcases hhi with⟨k',rfl⟩|⟨rfl,hj⟩
 ·have h3:(i:Int)≤(j:Int):=by omega
  have h4:(j:Int)≤(cap:Int):=by omega
  simp [Instr.slice,run_underlying hT,Instr.sliceBounds,Instr.sliceBound,asIntOf,kH hn,show i≤j by omega,show j≤cap by omega]
 ·obtain rfl:j=len:=by omega
  simp [Instr.slice,run_underlying hT,Instr.sliceBounds,Instr.sliceBound,asIntOf,kH hn,show i≤j by omega]
 ·obtain rfl:i=0:=by omega
  simp [Instr.slice,run_underlying hT,Instr.sliceBounds,Instr.sliceBound,asIntOf,kH hn,show j≤cap by omega]
 ·obtain rfl:i=0:=by omega
  obtain rfl:j=len:=by omega
  simp [Instr.slice,run_underlying hT,Instr.sliceBounds,kH hn]
theorem wI {n:Nat} {rows:List (List AV)} {i j:Int} (h:ace P σ o.op=some (n,rows,i,j)) (hb:0≤i∧i≤j∧j≤rows.length):WV P C o σ (.ls n (prt rows i j)):=by
 unfold ace at h
 split at h
 ·rename_i T x lo hi ho
  split at h
  ·rename_i e n' rows' hT hx
   split at h
   ·rename_i m hm
    cases hbq:Nat.beq m n' with
    | false=>rw [hbq] at h;cases h
    | true =>
     rw [hbq] at h
     obtain rfl:=dW hbq
     simp only [cond_true] at h
     have key:(n=m∧rows=rows')∧∀ G a w,Ok C σ G a w→((∃ k,lo.map a.eval=some (.int k i))∨(lo.map a.eval=none∧i=0))∧((∃ k,hi.map a.eval=some (.int k j))∨(hi.map a.eval=none∧j=rows'.length)):=by
      split at h
      ·cases h;exact ⟨⟨rfl,rfl⟩,fun G a w ok=>⟨.inr ⟨rfl,rfl⟩,.inr ⟨rfl,rfl⟩⟩⟩
      ·split at h
       ·rename_i k i' hy;cases h;exact ⟨⟨rfl,rfl⟩,fun G a w ok=>⟨.inl ⟨k,by simp [ok.evs hy]⟩,.inr ⟨rfl,rfl⟩⟩⟩
       ·cases h
      ·split at h
       ·rename_i k i' hy;cases h;exact ⟨⟨rfl,rfl⟩,fun G a w ok=>⟨.inr ⟨rfl,rfl⟩,.inl ⟨k,by simp [ok.evs hy]⟩⟩⟩
       ·cases h
      ·split at h
       ·rename_i k i' k' j' hy hz;cases h;exact ⟨⟨rfl,rfl⟩,fun G a w ok=>⟨.inl ⟨k,by simp [ok.evs hy]⟩,.inl ⟨k',by simp [ok.evs hz]⟩⟩⟩
       ·cases h
     obtain ⟨⟨rfl,rfl⟩,hlh⟩:=key
     refine WV.val (fun _ _ _ _=>.ls _ _) fun G a w ok=>?_
     obtain ⟨A,cap,ad,u,e1,h1,h2,h3,h4,h5⟩:=(ok.nO hx).2.D7.Bc
     obtain ⟨q1,q2⟩:=hlh G a w ok
     have hrun:=ZV (P:=P) hT hm A rows.length cap (lo.map a.eval) (hi.map a.eval) i j w q1 q2 hb h5
     have hlen:(prt rows i j).length=j.toNat-i.toNat:=by unfold prt;simp;omega
     have hrow:∀ (q:Nat) r,(prt rows i j)[q]?=some r→rows[i.toNat+q]?=some r∧q<j.toNat-i.toNat:=fun q r hq=>by
      have hlt:=(List.getElem?_eq_some_iff.1 hq).1
      unfold prt at hq
      rw [yA,List.getElem?_take] at hq
      split at hq
      ·exact ⟨hq,by omega⟩
      ·cases hq
     refine ⟨.slice (if cap=i.toNat then A else A.map (·.add (i.toNat*n))) (prt rows i j).length (cap-i.toNat),?_,.pu _ _ (.ls n _ _ _ (ad.add (i.toNat*n)) (fun q s=>u (i.toNat+q) s) (by rw [hlen];omega) (fun r hr=>?_) (fun hp=>?_) (fun q r s av a1 a2=>?_) fun q r s av a1 a2=>?_)⟩
     ·unfold execOp
      simp only [ho,e1,L9]
      rw [hlen]
      have hsa:∀ v,(Instr.sliceAt T (.slice A rows.length cap) (lo.map a.eval) (hi.map a.eval) none).run P w=.ok v w↔(Instr.slice T (.slice A rows.length cap) (lo.map a.eval) (hi.map a.eval) none).run P w=.ok v w:=fun v=>by
       exact ak3
      rw [Sem.run_bind,(hsa _).2 hrun];rfl
     ·obtain ⟨q,hq,rfl⟩:=eu hr
      exact h1 _ (cO (hrow q _ (aI hq)).1)
     ·rw [hlen] at hp
      rw [if_neg (by omega),h2 (by omega)];rfl
     ·obtain ⟨b1,b2⟩:=hrow q r a1
      have:=h3 _ r s av b1 a2
      rw [kW,← H8,← Nat.add_mul];exact this
     ·exact h4 _ r s av (hrow q r a1).1 a2
   ·cases h
  ·cases h
 ·cases h
theorem WL.KJ {n:Nat} {rows rows':List (List AV)} {i j:Int} (hd:lK C.N o=some d)(h:ace P σ o.op=some (n,rows,i,j))(hb:0≤i∧i≤j∧j≤rows.length)(he:prt rows i j=rows')(k:WL P C ops rest (σ.put d (.ls n rows')) Q):WL P C ops (o::rest) σ Q:=by
 subst he
 exact WL.vl hd (wI h hb) k
theorem DK.KJ {n:Nat} {rows rows':List (List AV)} {i j:Int} (hd:NQ C.N ops σ o=some d)(h:ace P (σ.only (o.looksAt ops)) o.op=some (n,rows,i,j))(hb:0≤i∧i≤j∧j≤rows.length)(he:prt rows i j=rows')(k:DK P C ops rest (σ.put d (.ls n rows')) Q):DK P C ops (o::rest) σ Q:=by
 subst he
 exact DK.vl hd (wI h hb) k
def arY (P:Program)(σ:St):Op→Option (IntKind×Int)
 | .convert S T x =>
  match P.underlying T,σ.ev x with
  | some (.int k),some (.sc (.int _ n))=>some (k,n)
  | _,_=>none
 | _=>none
theorem amU {k:IntKind} {n:Int} (h:arY P σ o.op=some (k,n))(hs:∀ S T x,o.op=.convert S T x→(P.underlying S).isSome=true):WV P C o σ (.sc (.int k (k.wrap n))):=by
 unfold arY at h
 split at h
 ·rename_i S T x ho
  split at h
  ·rename_i k' k2 n' hT hx
   cases h
   have:=hs S T x ho
   cases hS:P.underlying S with
   | none=>rw [hS]at this;cases this
   | some d=>exact WV.sc fun G a w ok=>by unfold execOp;simp [ho,ok.evs hx,convert,run_underlying hS,run_underlying hT,Conv.intToInt]
  ·cases h
 ·cases h
def ax1(P:Program):Op→Bool
 | .convert S _ _=>(P.underlying S).isSome
 | _=>true
theorem WL.cvt {k:IntKind} {n m:Int} (hd:lK C.N o=some d)(h:arY P σ o.op=some (k,n))(hs:ax1 P o.op=true)(hm:k.wrap n=m)(K:WL P C ops rest (σ.put d (.sc (.int k m))) Q):WL P C ops (o::rest) σ Q:=by
 subst hm
 exact WL.vl hd (amU h fun S T x e=>by rw [e] at hs;exact hs) K
def aBr (P:Program)(σ:St):Op→Option (List AV×Nat)
 | .load T x =>
  match yI P T,σ.ev x with
  | some false,some (.pt k 0 j) =>
   match look k σ.M with
   | some (.box _ cells)=>some (cells,j)
   | _=>none
  | _,_=>none
 | _=>none
def anQ (P:Program)(σ:St):Op→Option (List (List AV)×Nat×Nat)
 | .load T x =>
  match yI P T,σ.ev x with
  | some false,some (.pt k i j) =>
   match look k σ.M with
   | some (.row _ _ rows)=>some (rows,i,j)
   | _=>none
  | _,_=>none
 | _=>none
theorem abI {rows:List (List AV)} {i j:Nat} {r:List AV} {av:AV} (h:anQ P σ o.op=some (rows,i,j)) (hi:rows[i]?=some r) (hj:r[j]?=some av) (ho2:av.own=false):WV P C o σ av:=by
 unfold anQ at h
 split at h
 ·rename_i T x ho
  split at h
  ·rename_i k i' j' hT hx
   split at h
   ·rename_i T' n rows' hk
    cases h
    exact WV.apI ho hT hx hk (l:=r.drop j) (by simp [AO.from_,hi]) Ez ho2
   ·cases h
  ·cases h
 ·cases h
theorem WL.ldr {rows:List (List AV)} {i j:Nat} {r:List AV} {av:AV} (hd:lK C.N o=some d)(h:anQ P σ o.op=some (rows,i,j))(hi:rows[i]?=some r)(hj:r[j]?=some av)(ho2:av.own=false)(k:WL P C ops rest (σ.put d av) Q):WL P C ops (o::rest) σ Q:=WL.vl hd (abI h hi hj ho2) k
end
def av6 {α:Type} [DecidableEq α] (k:α):Nat→List (α×Value)→Option (Nat×Value)
 | _,[]=>none
 | i,x::r=>if k=x.1 then some (i,x.2) else av6 k (i+1) r
structure aAB (P:Program) (kt:TypeId) {α:Type} [DecidableEq α] (enc:α→Value):Prop where
 chk:∀ w b k,(Instr.checkKey b 10000 kt (enc k)).run P w=.ok () w
 fnd:∀ w k (es:List MapEntry) (l:List (α×Value)),es.map (fun e=>(e.key,e.val))=l.map (fun x=>(enc x.1,x.2))→(Instr.findKey kt (enc k) es).run P w=.ok (av6 k 0 l) w
 bits:∀ k,Instr.sameBits 10000 (enc k) (enc k)=true
section
variable {P:Program} {C:Cx} {σ σ':St} {G G':Gh} {a:Act} {w w':World} {o:Oper} {d:Tmp} {ops:Array Oper} {rest:List Oper} {Q:Exit→St→Prop}
theorem Ok.at7 (ok:Ok C σ G a w) {k g:Nat} {ob ob':AO} (hk:look k σ.M=some ob) (hg:G.fp k g) (hkept:Kept (fun x=>x=g) w w') (hob:oU G w' k ob') (hbd:ob'.bd σ.nk) :
  Ok C (σ.upd k ob') G a w':=by
 have hl:∀ k' o,look k' (σ.upd k ob').M=some o→(k'=k∧o=ob')∨(k'≠k∧look k' σ.M=some o):=fun k' o hx=>by
  exact al4
 have hne:∀ k' o x,k'≠k→look k' σ.M=some o→G.fp k' x→x≠g:=fun k' o x e h1 h2 h3=>by
  subst h3;exact e (ok.dj k' o k ob x h1 hk h2 hg)
 have some_:∀ k' o,look k' (σ.upd k ob').M=some o→∃ o',look k' σ.M=some o':=fun k' o h=>by
  exact akH
 refine ⟨ok.sz,ok.df,ok.tm,ok.bel.on hkept (fun x hx=>by subst hx;exact (ok.my k ob x hk hg).1),fun p u h=>?_,ok.f0,ok.f1,?_,?_,?_,?_⟩
 ·rw [World.cell?_of_block (hkept.block p.block (aN (ok.fw p u h)) (ok.dF k ob g p u hk hg h))];exact ok.fw p u h
 ·intro k' o x
  rcases hl k' o x with⟨rfl,rfl⟩|⟨e,y⟩
  ·exact ⟨(ok.ob k' ob hk).1,hbd,hob⟩
  ·exact ⟨(ok.ob k' o y).1,(ok.ob k' o y).2.1,(ok.ob k' o y).2.2.keep (Gh.le.refl _ _) (ok.ob k' o y).1 (ok.ob k' o y).2.1 rfl fun x hx=>hkept.block x (ok.my k' o x y hx).2 (hne k' o x e y hx)⟩
 ·intro k' o x h1 h2
  obtain ⟨o',y⟩:=some_ k' o h1
  exact ⟨(ok.my k' o' x y h2).1,lH (ok.my k' o' x y h2).2 hkept.size⟩
 ·intro k1 o1 k2 o2 x h1 h2 h3 h4
  exact akj
 ·intro k1 o1 x p u h1 h2 h3
  exact ak1
end
section
variable {P:Program} {C:Cx} {σ:St} {o:Oper} {d:Tmp} {ops:Array Oper} {rest:List Oper} {Q:Exit→St→Prop} {mem:List Bool} {Mc:List (Nat×AO)} {fJ k:Nat}
theorem Tr.aht {t:Tmp} (n:Nat) (h:look t σ.t=some (.sc (.slice none 0 0))):Tr C σ (σ.put t (.ls n [])):=fun G a w ok =>
 ⟨G,ok.ZM h (.ls _ _) fun v hv=>by rw [hv.fB];exact .pu _ _ (.ls n [] none 0 ⟨0,0,none⟩ (fun _ _=>undef) (by simp) (by simp) (by simp) (by simp) (by simp))⟩
def jE:World→View→Prop:=fun _ _=>True
theorem kV:QJ jE 0:=⟨fun _ _ _=>gU _,fun _ _ _ _ _ _ _=>trivial⟩
theorem dL(C:Cx):Holds jE 0 C:=⟨fun _ _ _ _=>trivial,fun _ _=>gU _⟩
end
section
variable {B:World→View→Prop} {gl:Nat} {P:Program} {C:Cx} {σ:St} {o:Oper} {d:Tmp} {ops:Array Oper} {rest:List Oper} {Q:Exit→St→Prop} {mem:List Bool} {Mc:List (Nat×AO)} {fJ k:Nat}
theorem Xm {σ σ':St} (h:σ'.M=σ.M) {ρ:Nat→Nat} {nk:Nat}:∀ {M:List (Nat×AO)},XY σ ρ nk M→XY σ' ρ nk M
 | [],_=>trivial
 | x::r,⟨h1,h2⟩=>⟨by rw [h];exact h1,Xm h h2⟩
theorem DK.bt {φ:Prop} [i:Decidable φ] (hc:abG o.op=true)(h:stepD P C.N ops σ o=some (d,.sc (.bool (decide φ))))(hφ:φ)(k:DK P C ops rest (σ.put d (.sc (.bool true))) Q):DK P C ops (o::rest) σ Q:=by
 rw [dG hφ] at h
 exact DK.st h k
theorem DK.bf {φ:Prop} [i:Decidable φ] (hc:abG o.op=true)(h:stepD P C.N ops σ o=some (d,.sc (.bool (decide φ))))(hφ:¬ φ)(k:DK P C ops rest (σ.put d (.sc (.bool false))) Q):DK P C ops (o::rest) σ Q:=by
 rw [cZ hφ] at h
 exact DK.st h k
end
def DF (M:List (Nat×AO)):AV→AV
 | .sl k=>match look k M with
  | some (.row _ n rows)=>.ls n rows
  | _=>.sl k
 | av=>av
section
variable {B:World→View→Prop} {gl:Nat} {P:Program} {C:Cx} {ops:Array Oper} {rest:List Oper} {σ σ':St} {G G':Gh} {a:Act} {w w':World} {o:Oper} {d:Tmp} {Q:Exit→St→Prop}
theorem Ru (ok:Ok C σ G a w) {av:AV} {v:Value} (h:R G av v) (hp:(DF σ.M av).pu2=true):RP (fun q=>w.cell? q) (DF σ.M av) v:=by
 have hF:G.F.le fun q=>w.cell? q:=fun p u x=>ok.fw p u x
 have std:DF σ.M av=av→RP (fun q=>w.cell? q) (DF σ.M av) v:=fun e=>by
  rw [e] at hp ⊢
  exact RP.mono hF ((oC hp 0).rp h)
 cases av with
 | sl k =>
  cases hk:look k σ.M with
  | none=>exact std (by simp only [DF,hk])
  | some ob =>
   cases ob with
   | row T n rows =>
    have e:DF σ.M (.sl k)=.ls n rows:=by simp only [DF,hk]
    rw [e,h.nG.1]
    obtain ⟨_,_,hob⟩:=ok.ob k _ hk
    have:=dH.fix (F':=fun q=>w.cell? q) id hob.2.2 (fun _ _=>rfl) fun i r j av u ψ _ _ _ x=>RP.mono hF x
    exact ng
   | _=>exact std (by simp only [DF,hk])
 | _=>exact std rfl
theorem H7:∀ w F F',View.le F F'→jE w F→jE w F':=fun _ _ _ _ h=>h
def atS (P:Program) (σ:St):Op→Option (List UInt8×Int)
 | .index T x y =>
  match P.underlying T,σ.ev x,σ.ev y with
  | some .string,some (.sc (.string ⟨⟨s⟩⟩)),some (.sc (.int _ i))=>some (s,i)
  | _,_,_=>none
 | _=>none
theorem aoH {T:TypeId} {s:List UInt8} {k:IntKind} {i:Int} (hT:P.underlying T=some .string) (h0:0≤i) (h1:i<s.length) :
  (Instr.index T (.string (bs s)) (.int k i)).run P w=.ok (.int .u8 ((s.getD i.toNat 0).toNat:Int)) w:=by
 have hl:i.toNat<s.length:=by omega
 have e:(bs s)[i.toNat]?=some (s.getD i.toNat 0):=by
  rw [oP,aI hl]
  have hs:i.toNat<(bs s).size:=by rw [bY];exact hl
  rw [getElem?_pos (bs s) i.toNat hs]
  rfl
 simp [Instr.index,asIntOf,run_underlying hT,h0,e]
theorem aoP {s:List UInt8} {i:Int} (h:atS P σ o.op=some (s,i)) (hb:0≤i∧i<s.length):WV P C o σ (.sc (.int .u8 ((s.getD i.toNat 0).toNat:Int))):=by
 unfold atS at h
 split at h
 ·rename_i T x y ho
  split at h
  ·rename_i s' k i' hT hx hy
   cases h
   refine WV.sc fun G a w ok=>?_
   unfold execOp
   simp only [ho,ok.evs hx,ok.evs hy,Sem.run_bind]
   have h6:(Instr.index T (.string ⟨⟨s⟩⟩) (.int k i)).run P w=.ok (.int .u8 ((s.getD i.toNat 0).toNat:Int)) w:=aoH hT hb.1 hb.2
   rw [h6];rfl
  ·cases h
 ·cases h
theorem WL.six {s:List UInt8} {i:Int} (hd:lK C.N o=some d)(h:atS P σ o.op=some (s,i))(hb:0≤i∧i<s.length)(k:WL P C ops rest (σ.put d (.sc (.int .u8 ((s.getD i.toNat 0).toNat:Int)))) Q):WL P C ops (o::rest) σ Q :=
 WL.vl hd (aoP h hb) k
end
def onB:AV→Bool
 | .sc v=>v.oneCell'
 | .ls _ _=>true
 | _=>false
def yg (M:List (Nat×AO)):AV→AV
 | .pt k 0 0=>match look k M with
  | some (.box _ cells)=>bif cells.all onB then .pr cells else .pt k 0 0
  | _=>.pt k 0 0
 | av=>DF M av
def ahi (M:List (Nat×AO)):AV→AV
 | .fn f l=>.fn f (l.map (yg M))
 | av=>yg M av
section
variable {B:World→View→Prop} {gl:Nat} {P:Program} {C:Cx} {ops:Array Oper} {rest:List Oper} {σ σ':St} {G G':Gh} {a:Act} {w w':World} {o:Oper} {d:Tmp} {Q:Exit→St→Prop}
theorem atn {av:AV} {u:Value} (h:onB av=true)(r:R G av u):u.oneCell'=true∧RP G.F av u∧av.own=false:=by
 cases av with
 | sc v =>
  obtain rfl:=r.fB
  exact⟨h,.sc _,rfl⟩
 | ls n rows =>
  have h2:RP G.F (.ls n rows) u:=(oC (av:=.ls n rows) rfl 0).rp r
  obtain⟨A,cap,ad,u',rfl,_⟩:=h2.Bc
  exact⟨rfl,h2,rfl⟩
 | _=>cases h
theorem Vl (ok:Ok C σ G a w) {av:AV} {v:Value} (h:R G av v) (hp:(yg σ.M av).pu2=true):RP (fun q=>w.cell? q) (yg σ.M av) v:=by
 have hF:G.F.le fun q=>w.cell? q:=fun p u x=>ok.fw p u x
 cases av with
 | pt k i j =>
  cases i with
  | succ i=>exact Ru ok h hp
  | zero =>
   cases j with
   | succ j=>exact Ru ok h hp
   | zero =>
    cases hk:look k σ.M with
    | none =>
     exact akw
    | some ob =>
     cases ob with
     | box T cells =>
      have e:yg σ.M (.pt k 0 0)=bif cells.all onB then .pr cells else .pt k 0 0:=by simp only [yg,hk]
      rw [e] at hp ⊢
      cases hc:cells.all onB with
      | false=>rw [hc] at hp;cases hp
      | true =>
       obtain ⟨p,rfl,h1,h2,h3⟩:=h.lV
       have hcell:∀ (j:Nat) av,cells[j]?=some av→∃ u,w.cell? (p.add j)=some u∧u.oneCell'=true∧RP G.F av u:=fun j av hj=>by
        have hb:=List.all_eq_true.1 hc av (cO hj)
        have ho:av.own=false:=by cases av<;>first|rfl|cases hb
        obtain ⟨u,hu,hr,_⟩:=ok.cell (i:=0) (j:=0) (l:=cells) hk rfl hj h1 h2 h3 ho
        exact alc
       show RP _ (.pr cells) _
       refine .pr cells p (fun j=>(w.cell? (p.add j)).getD undef) (fun j av hj=>?_) (fun j av hj=>?_)
       ·exact akW
       exact akZ
     | _ =>
      exact akw
 | _=>exact Ru ok h hp
theorem ahj (ok:Ok C σ G a w) {av:AV} {v:Value} (h:R G av v) (hp:(ahi σ.M av).pu2=true):RP (fun q=>w.cell? q) (ahi σ.M av) v:=by
 cases av with
 | fn f l =>
  obtain ⟨cs,rfl,h1,h2⟩:=h.A8
  show RP _ (.fn f (l.map (yg σ.M))) _
  refine .fn f _ cs (by rw [h1,aH]) fun i av u a b=>?_
  rw [bT] at a
  cases hi:l[i]? with
  | none=>simp [hi] at a
  | some av0 =>
   simp only [hi,oM,Option.some.injEq] at a
   subst a
   refine Vl ok (h2 i av0 u hi b) ?_
   have hall:(l.map (yg σ.M)).all AV.ZG=true:=hp
   have h3:(yg σ.M av0).ZG=true:=List.all_eq_true.1 hall _ (cO (by rw [bT,hi];rfl))
   generalize yg σ.M av0=q at h3 ⊢
   cases q<;>first|rfl|cases h3
 | _=>exact Vl ok h hp
theorem WV.ahk (hB:Holds B gl C) {f:FuncId} {y:Operand} {fv:AV} {xs:Array Operand} {ts:Array TypeId} {mg caps args args':List AV} {res:Value} (ho:o.op=.call { callee:=.value y,args:=xs,argTypes:=ts }) (hc:∀ vs w,(callFunc f vs).run P w=.ok (.enter f vs) w)
  (hy:σ.ev y=some fv) (hf:Yv fv=some (f,caps)) (hx:σ.evs xs.toList=some mg) (NV:mg++caps=args) (hl:args.map (ahi σ.M)=args') (hp:args'.all AV.pu2=true) (hst:∀ w F F',View.le F F'→B w F→B w F') (h:kJ B P f args' (.sc res)):WV P C o σ (.sc res):=by
 intro G a w ok N Q' hN
 obtain ⟨cs,ey,h1,h2⟩:=Dx hf (ok.nO hy).2
 obtain ⟨e1,e2⟩:=ok.agw hx h1 h2 NV
 subst hl
 have hF:G.F.le fun q=>w.cell? q:=fun p u x=>ok.fw p u x
 refine IL ho hc ey (h w (fun q=>w.cell? q) _ (hst w _ _ hF (hB.1 w G.F ok.bel ok.f0)) (fun _ _ x=>x) ⟨by rw [e1,aH],fun i av u p q=>?_⟩) fun e w1 ⟨v,F',he,hb,h1,h2,h3,h4⟩=>?_
 ·rw [bT] at p
  cases hi:args[i]? with
  | none=>simp [hi] at p
  | some av0 =>
   simp only [hi,oM,Option.some.injEq] at p
   subst p
   exact ahj ok (e2 i av0 u hi q) (List.all_eq_true.1 hp _ (cO (by rw [bT,hi];rfl)))
 ·have hv:=h4.fB
  subst hv
  exact ⟨_,he,hN _ { G with F:=G.F } w1 (fun Dk a'' Fj=>Fj.called hb (fun _ _ x=>x) (fun p u x=>by rw [hb.cell (aN (ok.fw p u x))];exact ok.fw p u x) (fun _ _ x=>.inl x)) (.pu _ _ (.sc _)) (RP.bd (F:=G.F) (.sc _) _)⟩
end
end
section
open Go.RowKit
attribute [local go_sem]wC bY gW gV dU
attribute [local simp]mV iK eF je
theorem afb (v:Int) (d t:Bool) (w:World):Calls Tryz.prog 113 #[.agg #[.int .i64 v,.bool d,.bool t]] w (eG (.bool (gZ v d t)) w):=by
 by_cases h0:v=0
 ·subst h0
  cases d<;>cases t
  all_goals
   go_enter Tryz.func113,Tryz.ntmps113
   go_wp2
   go_ret
   exact eG.mk' rfl jT
 ·have hb:(v == 0)=false:=by simpa using h0
  have e:gZ v d t=(decide (1≤v) && decide (v≤7) && !(d && t)):=by unfold gZ;rw [hb];simp
  rw [e]
  clear e
  by_cases h1:1≤v
  ·by_cases h7:v≤7
   ·cases d<;>cases t
    all_goals
     go_enter Tryz.func113,Tryz.ntmps113
     go_wp2
     go_ret
     exact eG.mk' (by simp [h1,h7]) jT
   ·rw [show (decide (1≤v) && decide (v≤7) && !(d && t))=false from by rw [cZ h7];simp]
    exact akF
  ·rw [show (decide (1≤v) && decide (v≤7) && !(d && t))=false from by rw [cZ h1];simp]
   exact akF
end
section
open Go.RowKit
theorem amC (M:PM) (p:aS) (w:World) (hP:uZ w w.heap.size M p):Calls Tryz.prog 17 #[iD M p] w (eG (.bool (Uo p)) w):=by
 obtain ⟨A1,A2,A3,c1,c2,c3⟩:=M
 obtain ⟨cs,st,evs⟩:=p
 unfold iD
 simp only at *
 have HP:=Lib.hid hP.2.1
 obtain ⟨n1,hn1⟩:∃ n,cs.length=n:=⟨_,rfl⟩
 obtain ⟨n2,hn2⟩:∃ n,st.length=n:=⟨_,rfl⟩
 obtain ⟨n3,hn3⟩:∃ n,evs.length=n:=⟨_,rfl⟩
 have HN3:=Lib.hid hn3
 have hB:Uo ⟨cs,st,evs⟩=(decide (64 < n1)|| (decide (64 < n2)|| (decide (420 < n3)|| evs.any fun e=>decide (20 < e.stops.length)))):=by unfold Uo;rw [hn1,hn2,hn3]
 rw [hB,hn1,hn2,hn3]
 clear hB hn1 hn2 hn3 hP
 by_cases b1:64 < n1
 ·have e:(decide (64 < n1)|| (decide (64 < n2)|| (decide (420 < n3)|| evs.any fun e=>decide (20 < e.stops.length))))=true:=by simp [b1]
  exact ama
 ·by_cases b2:64 < n2
  ·have e:(decide (64 < n1)|| (decide (64 < n2)|| (decide (420 < n3)|| evs.any fun e=>decide (20 < e.stops.length))))=true:=by simp [b2]
   exact ama
  ·by_cases b3:420 < n3
   ·have e:(decide (64 < n1)|| (decide (64 < n2)|| (decide (420 < n3)|| evs.any fun e=>decide (20 < e.stops.length))))=true:=by simp [b3]
    exact ama
   ·have e:(decide (64 < n1)|| (decide (64 < n2)|| (decide (420 < n3)|| evs.any fun e=>decide (20 < e.stops.length))))=evs.any fun e=>decide (20 < e.stops.length):=by simp [b1,b2,b3]
    rw [e]
    clear e
    obtain ⟨V,hV⟩:∃ V,(evs.any fun e=>decide (20 < e.stops.length))=V:=⟨_,rfl⟩
    rw [hV]
    have HV:=Lib.hid hV
    clear hV
    go_enter Tryz.func17,Tryz.ntmps17
    go_wp2
    go_loop [3] (fun i=>∃ k:Nat,k≤n3∧i=.int .i64 k∧V=(evs.drop k).any fun e=>decide (20 < e.stops.length)) (fun i=>n3 - (intOf i).toNat)
    case atStart=>exact ⟨0,gU _,rfl,HV.out.symm⟩
    case round =>
     obtain ⟨k,hk,rfl,hs⟩:=hrel
     have HS:=Lib.hid hs
     clear hs
     by_cases hlt:k < n3
     ·have hk2:k < evs.length:=by have:=HN3.out;omega
      obtain ⟨ad,S,c,hA,hb,_,_,_,_,_,hc,_⟩:=HP.out.ev hk2
      subst hA
      have hs2:=HS.out.trans (afV hk2)
      generalize evs[k]=e at hc hs2
      have hc2:∀ o:Obj,(w.alloc o).cell? ⟨(ad.add (k*6)).block,(ad.add (k*6)).off+5,none⟩=some (.slice S e.stops.length c):=fun o=>by
       exact adb
      clear hc
      generalize e.stops.length=n at *
      by_cases hb1:20 < n
      ·have HE:=Lib.hid (hs2.trans (show _=true by simp [hb1]))
       clear hs2
       exact BM
      ·have HS3:=Lib.hid (hs2.trans (show _=(evs.drop (k+1)).any fun e=>decide (20 < e.stops.length) by simp [hb1]))
       clear hs2
       go_wp2
       go_round
       case rel=>exact ⟨k+1,by omega,by go_num,HS3.out⟩
       case measure=>simp [intOf];omega
     ·have HE:=Lib.hid (HS.out.trans (show ((evs.drop k).any fun e=>decide (20 < e.stops.length))=false from by rw [wU (by have:=HN3.out;omega)];rfl))
      exact BM
section
variable {B:World→View→Prop} {gl:Nat} {P:Program} {C:Cx} {ops:Array Oper} {rest:List Oper} {σ:St} {o:Oper} {d:Tmp} {Q:Exit→St→Prop}
def aBq (P:Program)(σ:St):Op→Option Bool
 | .binOp .neq T x (.const .nilIface) _ =>
  match P.underlying T,σ.ev x with
  | some (.interface _),some (.sc .nilIface)=>some false
  | some (.interface _),some (.sc (.iface _ _))=>some true
  | _,_=>none
 | _=>none
def atP (σ:St):Op→Option (Int×Int)
 | .binOp .sub _ x y _ =>
  match σ.ev x,σ.ev y with
  | some (.sc (.int .u8 m)),some (.sc (.int .u8 n))=>some (m,n)
  | _,_=>none
 | _=>none
theorem aoJ {m n:Int} (h:atP σ o.op=some (m,n))(hb:0≤m-n∧m-n≤255):WV P C o σ (.sc (.int .u8 (m-n))):=by
 unfold atP at h
 split at h
 ·rename_i T x y Ty ho
  split at h
  ·rename_i m n hx hy
   cases h
   have e:IntKind.u8.wrap (m-n)=m-n:=by
    have e:(m-n) % 256=m-n:=Int.emod_eq_of_lt hb.1 au
    simp [IntKind.wrap,IntKind.bits,IntKind.signed,e]
   exact WV.sc fun G a w ok=>by unfold execOp;simp [ho,ok.evs hx,ok.evs hy,eqGuard,binOp,Op.intArith,e]
  ·cases h
 ·cases h
theorem WL.sb8 {m n:Int} (hd:lK C.N o=some d)(h:atP σ o.op=some (m,n))(hb:0≤m-n∧m-n≤255)(k:WL P C ops rest (σ.put d (.sc (.int .u8 (m-n)))) Q):WL P C ops (o::rest) σ Q:=WL.vl hd (aoJ h hb) k
end
end
end Go.Proofs.YthehkchjdkdbiaaGreatDoor
