/- A walk that knows values as trees: addresses, loads. -/
import Derived.Test.YtaeelcfjkhfpkaaGreatE2Sq
set_option linter.unusedVariables false
set_option linter.unusedSimpArgs false
namespace Go.Proofs.YtaeelcfjkhfpkaaGreat
section
open Go.RowKit
section
variable {P:Program} {C:Cx} {σ σ':St} {o:Oper} {d:Tmp}
def WV (P:Program)(C:Cx)(o:Oper)(σ:St)(av:AV):Prop :=
 ∀ G a w,Ok C σ G a w→∀ (N:Act→World→Prop)(Q':Exit→Act→World→Prop),
  (∀ v G' w',(∀ σ'' a'',Ok C σ'' G a'' w→Ok C σ'' G' a'' w')→R G' av v→Bd σ.nk av→N (a.put o.dst v) w')→o.wp P a w N Q'
theorem WO.of_wv {av:AV} (hds:o.dst=some d)(hd:Nat.blt d C.N=true)(h:WV P C o σ av):WO P C o σ (σ.put d av):=fun G a w ok N Q' hN =>
 h G a w ok N Q' fun v G' w' hk hr hb=>by
  rw [hds]
  exact hN G' _ w' ((hk σ a ok).set (d:=some d) hr hb fun x hx=>by cases hx;exact of_blt hd)
theorem WL.opv {ops:Array Oper} {rest:List Oper} {Q:Exit→St→Prop} {av:AV} (hg:o.guard=none)(hds:o.dst=some d)(hd:Nat.blt d C.N=true)(h:WV P C o σ av)(k:WL P C ops rest (σ.put d av) Q):WL P C ops (o::rest) σ Q :=
 WL.op hg (WO.of_wv hds hd h) k
theorem WV.val {av:AV} (hb:∀ G a w,Ok C σ G a w→Bd σ.nk av)(h:∀ G a w,Ok C σ G a w→∃ v,(execOp a.eval o).run P w=.ok (.value v) w∧R G av v):WV P C o σ av:=by
 intro G a w ok N Q' hN
 obtain⟨v,h1,h2⟩:=h G a w ok
 unfold Oper.wp
 rw [h1]
 exact hN v G w (fun _ _ h=>h) h2 (hb G a w ok)
theorem WV.sc {v:Value} (h:∀ G a w,Ok C σ G a w→(execOp a.eval o).run P w=.ok (.value v) w):WV P C o σ (.sc v) :=
 WV.val (fun _ _ _ _=>.sc v) fun G a w ok=>⟨v,h G a w ok,.pu _ _ (.sc v)⟩
theorem WV.move {x:Operand} {av:AV} (ho:o.op=.move x)(hx:σ.ev x=some av):WV P C o σ av :=
 WV.val (fun G a w ok=>(ok.evr hx).1) fun G a w ok=>⟨a.eval x,by unfold execOp;simp only [ho];rfl,(ok.evr hx).2⟩
theorem WV.assign {x:Operand} {av:AV} (ho:o.op=.assign x)(hx:σ.ev x=some av):WV P C o σ av :=
 WV.val (fun G a w ok=>(ok.evr hx).1) fun G a w ok=>⟨a.eval x,by unfold execOp;simp only [ho];rfl,(ok.evr hx).2⟩
theorem WV.pickT {c x y:Operand} {av:AV} (ho:o.op=.pick c x y)(hc:σ.ev c=some (.sc (.bool true)))(hx:σ.ev x=some av):WV P C o σ av :=
 WV.val (fun G a w ok=>(ok.evr hx).1) fun G a w ok=>⟨a.eval x,by unfold execOp;simp [ho,ok.evs hc,asBool],(ok.evr hx).2⟩
theorem WV.pickF {c x y:Operand} {av:AV} (ho:o.op=.pick c x y)(hc:σ.ev c=some (.sc (.bool false)))(hy:σ.ev y=some av):WV P C o σ av :=
 WV.val (fun G a w ok=>(ok.evr hy).1) fun G a w ok=>⟨a.eval y,by unfold execOp;simp [ho,ok.evs hc,asBool],(ok.evr hy).2⟩
theorem WV.pickS {c x y:Operand} {b:Bool} {u v:Value} (ho:o.op=.pick c x y)(hc:σ.ev c=some (.sc (.bool b)))(hx:σ.ev x=some (.sc u))(hy:σ.ev y=some (.sc v)):WV P C o σ (.sc (if b=true then u else v)) :=
 WV.sc fun G a w ok=>by unfold execOp;cases b<;>simp [ho,ok.evs hc,ok.evs hx,ok.evs hy,asBool]
def I64(z:Int):Prop:=-9223372036854775808≤z∧z<9223372036854775808
theorem I64.wrap {z:Int} (h:I64 z):IntKind.i64.wrap z=z:=Go.IntWalk.i64_in z ⟨h.1,by have:=h.2;omega⟩
theorem WV.add {T Ty:TypeId} {x y:Operand} {m n:Int} (ho:o.op=.binOp .add T x y Ty)(hx:σ.ev x=some (.sc (.int .i64 m)))(hy:σ.ev y=some (.sc (.int .i64 n)))(hb:I64 (m+n)):WV P C o σ (.sc (.int .i64 (m+n))) :=
 WV.sc fun G a w ok=>by unfold execOp;simp [ho,ok.evs hx,ok.evs hy,eqGuard,binOp,Op.intArith,hb.wrap]
theorem WV.sub {T Ty:TypeId} {x y:Operand} {m n:Int} (ho:o.op=.binOp .sub T x y Ty)(hx:σ.ev x=some (.sc (.int .i64 m)))(hy:σ.ev y=some (.sc (.int .i64 n)))(hb:I64 (m-n)):WV P C o σ (.sc (.int .i64 (m-n))) :=
 WV.sc fun G a w ok=>by unfold execOp;simp [ho,ok.evs hx,ok.evs hy,eqGuard,binOp,Op.intArith,hb.wrap]
theorem WV.mul {T Ty:TypeId} {x y:Operand} {m n:Int} (ho:o.op=.binOp .mul T x y Ty)(hx:σ.ev x=some (.sc (.int .i64 m)))(hy:σ.ev y=some (.sc (.int .i64 n)))(hb:I64 (m*n)):WV P C o σ (.sc (.int .i64 (m*n))) :=
 WV.sc fun G a w ok=>by unfold execOp;simp [ho,ok.evs hx,ok.evs hy,eqGuard,binOp,Op.intArith,hb.wrap]
theorem WV.lss {T Ty:TypeId} {x y:Operand} {k:IntKind} {m n:Int} (ho:o.op=.binOp .lss T x y Ty)(hx:σ.ev x=some (.sc (.int k m)))(hy:σ.ev y=some (.sc (.int k n))):WV P C o σ (.sc (.bool (decide (m<n)))) :=
 WV.sc fun G a w ok=>by unfold execOp;simp [ho,ok.evs hx,ok.evs hy,eqGuard,binOp,Op.intCmp]
theorem WV.leq {T Ty:TypeId} {x y:Operand} {k:IntKind} {m n:Int} (ho:o.op=.binOp .leq T x y Ty)(hx:σ.ev x=some (.sc (.int k m)))(hy:σ.ev y=some (.sc (.int k n))):WV P C o σ (.sc (.bool (decide (m≤n)))) :=
 WV.sc fun G a w ok=>by unfold execOp;simp [ho,ok.evs hx,ok.evs hy,eqGuard,binOp,Op.intCmp]
theorem WV.gtr {T Ty:TypeId} {x y:Operand} {k:IntKind} {m n:Int} (ho:o.op=.binOp .gtr T x y Ty)(hx:σ.ev x=some (.sc (.int k m)))(hy:σ.ev y=some (.sc (.int k n))):WV P C o σ (.sc (.bool (decide (n<m)))) :=
 WV.sc fun G a w ok=>by unfold execOp;simp [ho,ok.evs hx,ok.evs hy,eqGuard,binOp,Op.intCmp]
theorem WV.geq {T Ty:TypeId} {x y:Operand} {k:IntKind} {m n:Int} (ho:o.op=.binOp .geq T x y Ty)(hx:σ.ev x=some (.sc (.int k m)))(hy:σ.ev y=some (.sc (.int k n))):WV P C o σ (.sc (.bool (decide (n≤m)))) :=
 WV.sc fun G a w ok=>by unfold execOp;simp [ho,ok.evs hx,ok.evs hy,eqGuard,binOp,Op.intCmp]
theorem WV.eql {T Ty:TypeId} {x y:Operand} {k:IntKind} {m n:Int} (ho:o.op=.binOp .eql T x y Ty)(hx:σ.ev x=some (.sc (.int k m)))(hy:σ.ev y=some (.sc (.int k n))):WV P C o σ (.sc (.bool (decide (m=n)))) :=
 WV.sc fun G a w ok=>by unfold execOp;simp [ho,ok.evs hx,ok.evs hy,eqGuard,binOp,Op.intCmp];rfl
theorem WV.neq {T Ty:TypeId} {x y:Operand} {k:IntKind} {m n:Int} (ho:o.op=.binOp .neq T x y Ty)(hx:σ.ev x=some (.sc (.int k m)))(hy:σ.ev y=some (.sc (.int k n))):WV P C o σ (.sc (.bool (!decide (m=n)))) :=
 WV.sc fun G a w ok=>by unfold execOp;simp [ho,ok.evs hx,ok.evs hy,eqGuard,binOp,Op.intCmp];rfl
theorem WV.not {T:TypeId} {x:Operand} {b:Bool} (ho:o.op=.unOp .not T x)(hx:σ.ev x=some (.sc (.bool b))):WV P C o σ (.sc (.bool (!b))) :=
 WV.sc fun G a w ok=>by unfold execOp;simp [ho,ok.evs hx,Op.unary]
theorem WV.beq {T Ty:TypeId} {x y:Operand} {b c:Bool} (ho:o.op=.binOp .eql T x y Ty)(hT:P.underlying T=some .bool)(hx:σ.ev x=some (.sc (.bool b)))(hy:σ.ev y=some (.sc (.bool c))):WV P C o σ (.sc (.bool (b == c))) :=
 WV.sc fun G a w ok=>by unfold execOp;simp [ho,ok.evs hx,ok.evs hy,eqGuard,binOp,run_equal_bool w T b c hT]
theorem WV.bne {T Ty:TypeId} {x y:Operand} {b c:Bool} (ho:o.op=.binOp .neq T x y Ty)(hT:P.underlying T=some .bool)(hx:σ.ev x=some (.sc (.bool b)))(hy:σ.ev y=some (.sc (.bool c))):WV P C o σ (.sc (.bool (!(b == c)))) :=
 WV.sc fun G a w ok=>by unfold execOp;simp [ho,ok.evs hx,ok.evs hy,eqGuard,binOp,run_equal_bool w T b c hT]
def scs:List AV→Option (List Value)
 | []=>some []
 | .sc v::r=>(scs r).map (v::·)
 | _=>none
theorem scs_of {G:Gh}:∀ {l:List AV} {xs:List Value},scs l=some xs→∀ {cs:List Value},cs.length=l.length→(∀ (i:Nat) av u,l[i]?=some av→cs[i]?=some u→R G av u)→cs=xs:=by
 intro l
 induction l with
 | nil=>intro xs h cs hl _;cases h;exact List.eq_nil_of_length_eq_zero hl
 | cons a r ih =>
  intro xs h cs hl hc
  cases a with
  | sc v =>
   cases hr:scs r with
   | none=>simp [scs,hr] at h
   | some ys =>
    simp [scs,hr] at h
    subst h
    cases cs with
    | nil=>simp at hl
    | cons u us =>
     have h0:=(hc 0 (.sc v) u rfl rfl).sc_eq
     have:=ih hr (cs:=us) (by simpa using hl) (fun i av x p q=>hc (i+1) av x (by simpa using p) (by simpa using q))
     rw [h0,this]
  | _=>simp [scs] at h
theorem Ok.agg {G:Gh} {a:Act} {w:World} (ok:Ok C σ G a w) {x:Operand} {l:List AV} {xs:List Value} (hx:σ.ev x=some (.ag l)) (hs:scs l=some xs):a.eval x=.agg xs.toArray:=by
 obtain ⟨cs,e,h1,h2⟩:=(ok.evr hx).2.ag_of
 rw [e,← scs_of hs (cs:=cs.toList) (by simpa using h1) (fun i av u p q=>h2 i av u p (by simpa using q))]
theorem WV.aeq {T Ty:TypeId} {x y:Operand} {l m:List AV} {xs ys:List Value} {b:Bool} (ho:o.op=.binOp .eql T x y Ty) (hx:σ.ev x=some (.ag l)) (h1:scs l=some xs) (hy:σ.ev y=some (.ag m)) (h2:scs m=some ys)
  (hg:P.eqGuardType P.depth T=false) (he:∀ w,(Op.equalIn 10000 T (.agg xs.toArray) (.agg ys.toArray)).run P w=.ok b w):WV P C o σ (.sc (.bool b)) :=
 WV.sc fun G a w ok=>by unfold execOp;simp [ho,ok.agg hx h1,ok.agg hy h2,run_eqGuard_agg w _ T x y _ _ hg,run_eql_struct,he]
theorem WV.ane {T Ty:TypeId} {x y:Operand} {l m:List AV} {xs ys:List Value} {b:Bool} (ho:o.op=.binOp .neq T x y Ty) (hx:σ.ev x=some (.ag l)) (h1:scs l=some xs) (hy:σ.ev y=some (.ag m)) (h2:scs m=some ys)
  (hg:P.eqGuardType P.depth T=false) (he:∀ w,(Op.equalIn 10000 T (.agg xs.toArray) (.agg ys.toArray)).run P w=.ok b w):WV P C o σ (.sc (.bool (!b))) :=
 WV.sc fun G a w ok=>by unfold execOp;simp [ho,ok.agg hx h1,ok.agg hy h2,run_eqGuard_agg w _ T x y _ _ hg,run_neq_struct,he]
theorem WV.seq_ {T Ty:TypeId} {x y:Operand} {s t:List UInt8} (ho:o.op=.binOp .eql T x y Ty)(hx:σ.ev x=some (.sc (.string (bs s))))(hy:σ.ev y=some (.sc (.string (bs t)))):WV P C o σ (.sc (.bool (s == t))) :=
 WV.sc fun G a w ok=>by unfold execOp;simp [ho,ok.evs hx,ok.evs hy,eqGuard,binOp,Op.stringOp,bs_toList]
theorem WV.sne {T Ty:TypeId} {x y:Operand} {s t:List UInt8} (ho:o.op=.binOp .neq T x y Ty)(hx:σ.ev x=some (.sc (.string (bs s))))(hy:σ.ev y=some (.sc (.string (bs t)))):WV P C o σ (.sc (.bool (!(s == t)))) :=
 WV.sc fun G a w ok=>by unfold execOp;simp [ho,ok.evs hx,ok.evs hy,eqGuard,binOp,Op.stringOp,bs_toList]
theorem WV.extract {x:Operand} {i:Nat} {l:List AV} {av:AV} (ho:o.op=.extract x i)(hx:σ.ev x=some (.tu l))(hi:l[i]?=some av):WV P C o σ av :=
 WV.val (fun G a w ok=>by cases (ok.evr hx).1 with|tu _ h=>exact h i av hi) fun G a w ok=>by
  obtain⟨cs,e,h1,h2⟩:=(ok.evr hx).2.tu_of
  have hlt:i<cs.size:=by rw [h1];exact (List.getElem?_eq_some_iff.1 hi).1
  refine⟨cs[i],?_,h2 i av _ hi (Array.getElem?_eq_getElem hlt)⟩
  unfold execOp
  simp [ho,e,Instr.extract,Array.getElem?_eq_getElem hlt]
theorem WV.lenL {x:Operand} {T e:TypeId} {n:Nat} {rows:List (List AV)} (ho:o.op=.call { callee:=.builtin .len,args:=#[x],argTypes:=#[T] })(hT:P.underlying T=some (.slice e))(hx:σ.ev x=some (.ls n rows)) {m:Nat} (hm:rows.length=m):WV P C o σ (.sc (.int .i64 m)) :=
 WV.sc fun G a w ok=>by
  obtain⟨A,cap,ad,u,e,_⟩:=(ok.evr hx).2.pu_of.ls_of
  subst hm
  unfold execOp
  simp [ho,resolve,invoke,builtin,e,Builtin.len_,run_underlying hT,goInt]
theorem RowIs.len {w:World} {T n:Nat} {rows:List (List AV)} {v:Value} {φ:Nat→Prop} {X:Nat→Nat→(Nat→Prop)→AV→Value→Prop} (h:RowIs w T n rows v φ X):∃ A c,v=.slice A rows.length c:=by
 obtain⟨_,vs,Φ,h4,h5,_⟩:=h
 rcases h4.2 with⟨e,e2⟩|⟨g,cap,cur,e,_⟩
 ·exact⟨none,0,by rw [e,← h5,e2]⟩
 ·exact⟨_,cap,by rw [e,h5]⟩
def AO.rows?:AO→Option (List (List AV))
 | .row _ _ rows=>some rows
 | .rwn _ _ rows=>some rows
 | .rof _ _ rows _ _ _=>some rows
 | .rwo _ _ rows _ _ _=>some rows
 | _=>none
theorem ObAt.len {G:Gh} {w:World} {k:Nat} {ob:AO} {rows:List (List AV)} (h:ObAt G w k ob)(hr:ob.rows?=some rows):∃ A c,G.h k=.slice A rows.length c:=by
 cases ob with
 | row T n rs=>cases hr;exact h.2.2.len
 | rwn T n rs=>cases hr;exact h.2.2.len
 | rof T n rs hi hj y=>cases hr;exact h.2.2.len
 | rwo T n rs hi hj y=>cases hr;exact h.2.2.len
 | _=>cases hr
theorem WV.lenS {x:Operand} {T e:TypeId} {k:Nat} {ob:AO} {rows:List (List AV)} (ho:o.op=.call { callee:=.builtin .len,args:=#[x],argTypes:=#[T] })(hT:P.underlying T=some (.slice e))(hx:σ.ev x=some (.sl k))(hk:look k σ.M=some ob)(hr:ob.rows?=some rows) {m:Nat} (hm:rows.length=m):WV P C o σ (.sc (.int .i64 m)) :=
 WV.sc fun G a w ok=>by
  have e:=(ok.evr hx).2.sl_of.1
  obtain⟨A,c,e2⟩:=(ok.ob k _ hk).2.2.len hr
  rw [e2]at e
  subst hm
  unfold execOp
  simp [ho,resolve,invoke,builtin,e,Builtin.len_,run_underlying hT,goInt]
theorem WV.lenN {x:Operand} {T e:TypeId} {A:Option Addr} {m c:Nat} (ho:o.op=.call { callee:=.builtin .len,args:=#[x],argTypes:=#[T] })(hT:P.underlying T=some (.slice e))(hx:σ.ev x=some (.sc (.slice A m c))):WV P C o σ (.sc (.int .i64 m)) :=
 WV.sc fun G a w ok=>by
  unfold execOp
  simp [ho,resolve,invoke,builtin,ok.evs hx,Builtin.len_,run_underlying hT,goInt]
theorem WV.lenB {x:Operand} {T:TypeId} {s:List UInt8} (ho:o.op=.call { callee:=.builtin .len,args:=#[x],argTypes:=#[T] })(hT:P.underlying T=some .string)(hx:σ.ev x=some (.sc (.string (bs s)))):WV P C o σ (.sc (.int .i64 s.length)) :=
 WV.sc fun G a w ok=>by
  unfold execOp
  simp [ho,resolve,invoke,builtin,ok.evs hx,Builtin.len_,run_underlying hT,goInt,bs_size]
theorem add_ptr {b j:Nat} (p:Addr)(h1:p.block=b)(h3:p.spot=none):(p.add j).block=b∧(p.add j).off=p.off+j∧(p.add j).spot=none:=by
 unfold Addr.add
 by_cases e:j=0
 ·subst e;simp [h1,h3]
 ·simp [e,h1]
end
end
section
open Go.RowKit
def fldB (P:Program)(T i:Nat):Option Nat :=
 match P.underlying T with
 | some (.struct fs) =>
  match fs[i]? with
  | some f=>if P.cellsOf f.type=0 then none else some f.offset
  | none=>none
 | _=>none
def aggB (P:Program)(T:TypeId):Option Bool :=
 match P.underlying T with
 | some (.struct _)|some (.array _ _)=>some true
 | some _=>some false
 | none=>none
def sizeB (P:Program)(T:TypeId):Option Nat:=(P.info? T).map (·.size)
section
variable {P:Program} {C:Cx} {σ σ':St} {o:Oper} {d:Tmp}
theorem run_sizeB {T n:Nat} (h:sizeB P T=some n)(w:World):(sizeOf T).run P w=.ok n w:=by
 unfold sizeB at h
 cases hi:P.info? T with
 | none=>simp [hi]at h
 | some i =>
  simp [hi]at h
  simp [sizeOf,typeInfo,hi,h]
theorem run_aggB {T:Nat} {b:Bool} (h:aggB P T=some b)(w:World):(isAgg T).run P w=.ok b w:=by
 unfold aggB at h
 cases hu:P.underlying T with
 | none=>simp [hu]at h
 | some u =>
  unfold isAgg
  rw [Sem.run_bind,run_underlying hu w]
  cases u<;>simp_all
theorem run_fld {T i off:Nat} (h:fldB P T i=some off)(p:Addr)(w:World):(Instr.fieldAt T (.pointer (some p)) i).run P w=.ok (.pointer (some (p.add off))) w:=by
 unfold fldB at h
 cases hu:P.underlying T with
 | none=>simp [hu] at h
 | some u =>
  cases u with
  | struct fs =>
   simp only [hu] at h
   cases hf:fs[i]? with
   | none=>simp [hf] at h
   | some f =>
    simp only [hf] at h
    by_cases h0:P.cellsOf f.type=0
    ·rw [if_pos h0] at h;cases h
    ·rw [if_neg h0] at h
     cases h
     cases hq:P.info? f.type with
     | none=>exact absurd (by unfold Program.cellsOf;rw [hq];rfl) h0
     | some q =>
      have hne:q.size≠0:=by
       intro e;apply h0;unfold Program.cellsOf;rw [hq];exact e
      simp [Instr.fieldAt,Instr.sureAddr,fieldPlace,run_underlying hu,hf,sizeOf,typeInfo,hq,hne]
  | _=>simp [hu] at h
theorem WV.fieldP {T:TypeId} {x:Operand} {i off k r j:Nat} (ho:o.op=.fieldAddr T x i)(hf:fldB P T i=some off)(hx:σ.ev x=some (.pt k r j)):WV P C o σ (.pt k r (j+off)) :=
 WV.val (fun G a w ok=>by cases (ok.evr hx).1 with|pt _ _ _ h=>exact .pt _ _ _ h) fun G a w ok=>by
  obtain⟨p,e,h1,h2,h3⟩:=(ok.evr hx).2.pt_of
  obtain⟨q1,q2,q3⟩:=add_ptr (j:=off) p h1 h3
  exact⟨_,by unfold execOp;simp [ho,e,run_fld hf],.pt k r (j+off) _ q1 (by omega) q3⟩
theorem WV.fieldR {T:TypeId} {x:Operand} {i off:Nat} {cells:List AV} (ho:o.op=.fieldAddr T x i) (hf:fldB P T i=some off) (hx:σ.ev x=some (.pr cells)):WV P C o σ (.pr (cells.drop off)) :=
 WV.val (fun _ _ _ _=>.pr _) fun G a w ok=>by
  obtain ⟨p,u,e,h1,h2⟩:=(ok.evr hx).2.pr_of.pr_of
  refine ⟨.pointer (some (p.add off)),by unfold execOp;simp [ho,e,run_fld hf],.pu _ _ (.pr _ _ (fun j=>u (off+j)) (fun j av h=>?_) fun j av h=>?_)⟩
  ·rw [List.getElem?_drop] at h
   rw [add_of_add]
   exact h1 _ av h
  ·rw [List.getElem?_drop] at h
   exact h2 _ av h
theorem run_index {T e n:Nat} (hT:P.underlying T=some (.slice e)) (hn:sizeB P e=some n) (ad:Addr) (len cap:Nat) (k:IntKind) (z:Int) (h0:0≤z) (h1:z<len) (w:World) :
  (Instr.indexAt T (.slice (some ad) len cap) (.int k z)).run P w=.ok (.pointer (some (ad.add (z.toNat*n)))) w:=by
 simp [Instr.indexAt,asIntOf,run_underlying hT,h0,h1,run_sizeB hn]
theorem WV.indexL {T e n:Nat} {x y:Operand} {rows:List (List AV)} {k:IntKind} {z:Int} {r:List AV} (ho:o.op=.indexAddr T x y) (hT:P.underlying T=some (.slice e)) (hn:sizeB P e=some n)
  (hx:σ.ev x=some (.ls n rows)) (hy:σ.ev y=some (.sc (.int k z))) (h0:0≤z) (hr:rows[z.toNat]?=some r):WV P C o σ (.pr r) :=
 WV.val (fun _ _ _ _=>.pr _) fun G a w ok=>by
  obtain ⟨A,cap,ad,u,e1,h1,h2,h3,h4,_⟩:=(ok.evr hx).2.pu_of.ls_of
  have hlt:z.toNat<rows.length:=(List.getElem?_eq_some_iff.1 hr).1
  obtain rfl:=h2 zqo
  refine ⟨.pointer (some (ad.add (z.toNat*n))),by unfold execOp;simp [ho,e1,ok.evs hy,run_index hT hn ad rows.length cap k z h0 (by omega)],.pu _ _ (.pr _ _ (fun j=>u z.toNat j) (fun j av h=>?_) fun j av h=>?_)⟩
  ·rw [add_of_add];exact h3 _ r j av hr h
  ·exact h4 _ r j av hr h
theorem RowIs.base {w:World} {T n:Nat} {rows:List (List AV)} {v:Value} {φ:Nat→Prop} {b:Nat} {X:Nat→Nat→(Nat→Prop)→AV→Value→Prop} (h:RowIs w T n rows v φ X) (hg:∀ g,v.ownBlock=some g→g=b) (hp:0<rows.length):∃ c,v=.slice (some ⟨b,0,none⟩) rows.length c:=by
 obtain ⟨_,vs,Φ,h4,h5,_⟩:=h
 rcases h4.2 with⟨e,e2⟩|⟨g,cap,cur,e,_⟩
 ·omega
 ·have:=hg g (by rw [e];rfl)
  exact ⟨cap,by rw [e,h5,this]⟩
def AO.n?:AO→Option Nat
 | .row _ n _=>some n
 | .rwn _ n _=>some n
 | .rof _ n _ _ _ _=>some n
 | .rwo _ n _ _ _ _=>some n
 | _=>none
theorem ObAt.base {G:Gh} {w:World} {k n:Nat} {ob:AO} {rows:List (List AV)} (h:ObAt G w k ob) (hr:ob.rows?=some rows) (hn:ob.n?=some n) (hp:0<rows.length):G.n k=n∧∃ c,G.h k=.slice (some ⟨G.b k,0,none⟩) rows.length c:=by
 cases ob with
 | row T n rs=>cases hr;cases hn;exact ⟨h.1,h.2.2.base h.2.1 hp⟩
 | rwn T n rs=>cases hr;cases hn;exact ⟨h.1,h.2.2.base h.2.1 hp⟩
 | rof T n rs hi hj y=>cases hr;cases hn;exact ⟨h.1,h.2.2.base h.2.1 hp⟩
 | rwo T n rs hi hj y=>cases hr;cases hn;exact ⟨h.1,h.2.2.base h.2.1 hp⟩
 | _=>cases hr
theorem WV.indexS {T e n k:Nat} {ob:AO} {x y:Operand} {rows:List (List AV)} {q:IntKind} {z:Int} (ho:o.op=.indexAddr T x y) (hT:P.underlying T=some (.slice e)) (hn:sizeB P e=some n)
  (hx:σ.ev x=some (.sl k)) (hy:σ.ev y=some (.sc (.int q z))) (hk:look k σ.M=some ob) (hr:ob.rows?=some rows) (hn2:ob.n?=some n) (h0:0≤z) (h1:z < rows.length):WV P C o σ (.pt k z.toNat 0) :=
 WV.val (fun G a w ok=>.pt _ _ _ (ok.ob k _ hk).1) fun G a w ok=>by
  have e1:=(ok.evr hx).2.sl_of.1
  obtain ⟨hn3,c,e2⟩:=(ok.ob k _ hk).2.2.base hr hn2 zqo
  rw [e2] at e1
  obtain ⟨q1,q2,q3⟩:=add_ptr (j:=z.toNat*n) (⟨G.b k,0,none⟩:Addr) rfl rfl
  refine ⟨_,by unfold execOp;simp [ho,e1,ok.evs hy,run_index hT hn _ rows.length c q z h0 h1],.pt k z.toNat 0 _ q1 ?_ q3⟩
  rw [q2,hn3];simp
theorem RP.bd {F:View} {av:AV} {v:Value} (r:RP F av v)(nk:Nat):Bd nk av:=by
 induction r with
 | sc v=>exact .sc v
 | ls n rows A cap ad u _ _ _ _ _ _=>exact .ls n rows
 | pr cells p u _ _ _=>exact .pr cells
 | ag l cs h1 _ ih =>
  refine .ag l fun i x hx=>?_
  have hlt:i<cs.size:=by rw [h1];exact (List.getElem?_eq_some_iff.1 hx).1
  exact ih i x cs[i] hx (Array.getElem?_eq_getElem hlt)
 | tu l cs h1 _ ih =>
  refine .tu l fun i x hx=>?_
  have hlt:i<cs.size:=by rw [h1];exact (List.getElem?_eq_some_iff.1 hx).1
  exact ih i x cs[i] hx (Array.getElem?_eq_getElem hlt)
 | fn f l cs h1 _ ih =>
  refine .fn f l fun i x hx=>?_
  have hlt:i<cs.size:=by rw [h1];exact (List.getElem?_eq_some_iff.1 hx).1
  exact ih i x cs[i] hx (Array.getElem?_eq_getElem hlt)
def AO.from_:AO→Nat→Nat→Option (List AV)
 | .box _ cells,0,j=>some (cells.drop j)
 | .box _ _,_+1,_=>none
 | .row _ _ rows,i,j=>(rows[i]?).map (·.drop j)
 | .rwn _ _ rows,i,j=>(rows[i]?).map (·.drop j)
 | .rof _ _ _ _ _ _,_,_=>none
 | .rwo _ _ _ _ _ _,_,_=>none
 | .bld _ _ _,_,_=>none
 | .opq _,_,_=>none
theorem addr_eq {p:Addr} {b f:Nat} (h1:p.block=b)(h2:p.off=f)(h3:p.spot=none):p =⟨b,f,none⟩:=by
 cases p;simp_all
theorem add_flat(b f j:Nat):(⟨b,f,none⟩:Addr).add j =⟨b,f+j,none⟩:=by
 unfold Addr.add
 by_cases e:j=0<;>simp [e]
theorem RowIs.cell_at {w:World} {T n:Nat} {rows:List (List AV)} {v:Value} {φ:Nat→Prop} {b:Nat} {X:Nat→Nat→(Nat→Prop)→AV→Value→Prop} (h:RowIs w T n rows v φ X) (hg:∀ g,v.ownBlock=some g→g=b) {i j:Nat} {r:List AV} {av:AV} (hr:rows[i]?=some r) (hm:r[j]?=some av) :
  ∃ u,w.cell? ⟨b,i*n+j,none⟩=some u∧∃ ψ,X i j ψ av u:=by
 have hb:=h.base hg (by have:=(List.getElem?_eq_some_iff.1 hr).1;omega)
 obtain ⟨hrl,vs,Φ,h4,h5,h7,_,_,_,h8,h6⟩:=h
 have hi:i<rows.length:=(List.getElem?_eq_some_iff.1 hr).1
 have hv:vs[i]?=some vs[i]:=List.getElem?_eq_getElem (by omega)
 have e1:=h8 i r _ hr hv
 have hj:j<vs[i].length:=by rw [e1];exact (List.getElem?_eq_some_iff.1 hm).1
 have hvl:∀ r∈vs,r.length=n:=by
  intro r' hr'
  obtain ⟨q,hq,rfl⟩:=List.getElem_of_mem hr'
  have:=h8 q rows[q] vs[q] (List.getElem?_eq_getElem (by omega)) (List.getElem?_eq_getElem hq)
  rw [this];exact hrl _ (List.getElem_mem _)
 obtain ⟨A,c,hA,hrd,hat,_⟩:=rd_of_own h4 hvl rfl rfl
 obtain ⟨c2,hb2⟩:=hb
 rw [hb2] at hA
 injection hA with hA _ _
 subst hA
 obtain ⟨ad,had,_,hc⟩:=Rd.at_ (k:=i) hrd zqo
 injection had with had
 subst had
 refine ⟨_,?_,Φ i j,h6 i r _ j av _ hr hv hm (List.getElem?_eq_getElem hj)⟩
 have:=hc j _ (List.getElem?_eq_getElem hj)
 rw [add_flat,Nat.zero_add] at this
 exact this
theorem Ok.cell {G:Gh} {a:Act} {w:World} (ok:Ok C σ G a w) {k i j m:Nat} {ob:AO} {l:List AV} {av:AV} {p:Addr} (hk:look k σ.M=some ob)(hf:ob.from_ i j=some l)(hm:l[m]?=some av)
  (h1:p.block=G.b k)(h2:p.off=i*G.n k+j)(h3:p.spot=none)(ho:av.own=false):∃ u,w.cell? (p.add m)=some u∧R G av u∧Bd σ.nk av:=by
 obtain rfl:=addr_eq h1 h2 h3
 have h:=ok.ob k ob hk
 cases ob with
 | box T cells =>
  cases i with
  | succ i=>simp [AO.from_]at hf
  | zero =>
   simp only [AO.from_,Option.some.injEq]at hf
   subst hf
   rw [List.getElem?_drop]at hm
   obtain⟨_,cs,Φ,hb,hs,_,_,hc⟩:=h.2.2
   have hlt:j+m<cs.size:=by rw [hs];exact (List.getElem?_eq_some_iff.1 hm).1
   refine⟨cs[j+m],?_,(hc _ _ _ hm (Array.getElem?_eq_getElem hlt)).r ho,h.2.1 _ _ hm⟩
   rw [add_flat,Nat.zero_mul,Nat.zero_add,hb.cell]
   exact Array.getElem?_eq_getElem hlt
 | row T n rows =>
  simp only [AO.from_]at hf
  cases hr:rows[i]? with
  | none=>simp [hr]at hf
  | some r =>
   simp [hr]at hf
   subst hf
   rw [List.getElem?_drop]at hm
   obtain⟨hn,hg,hR⟩:=h.2.2
   obtain⟨u,hu,Ψ,hX⟩:=hR.cell_at hg hr hm
   have hp:RP G.F av u:=hX
   refine⟨u,?_,.pu _ _ hp,hp.bd _⟩
   rw [add_flat,hn,Nat.add_assoc];exact hu
 | rwn T n rows =>
  simp only [AO.from_]at hf
  cases hr:rows[i]? with
  | none=>simp [hr]at hf
  | some r =>
   simp [hr]at hf
   subst hf
   rw [List.getElem?_drop]at hm
   obtain⟨hn,hg,hR⟩:=h.2.2
   obtain⟨u,hu,Ψ,hX⟩:=hR.cell_at hg hr hm
   have hp:=OW.p hX ho
   refine⟨u,?_,.pu _ _ hp,hp.bd _⟩
   rw [add_flat,hn,Nat.add_assoc];exact hu
 | rof T n rows hi hj y=>cases hf
 | rwo T n rows hi hj y=>cases hf
 | bld T e l=>cases hf
 | opq q=>cases hf
theorem run_load1 {T:TypeId} {p:Addr} {u:Value} {w:World} (hT:aggB P T=some false)(h:w.cell? p=some u):(Instr.loadAt T (.pointer (some p))).run P w=.ok u w:=by
 simp [Instr.loadAt,Instr.sureAddr,loadVar,run_aggB hT,h]
theorem run_loadN {T n:Nat} {p:Addr} {cs:List Value} {w:World} (hT:aggB P T=some true)(hn:sizeB P T=some n)(hl:cs.length=n)(h:∀ j v,cs[j]?=some v→w.cell? (p.add j)=some v):(Instr.loadAt T (.pointer (some p))).run P w=.ok (.agg cs.toArray) w:=by
 have:=run_loadCells_list (P:=P) w p cs h
 rw [hl] at this
 simp [Instr.loadAt,Instr.sureAddr,loadVar,run_aggB hT,run_sizeB hn,this]
theorem add_zero'(p:Addr):p.add 0=p:=by simp [Addr.add]
theorem WV.load1 {T:TypeId} {x:Operand} {k i j:Nat} {ob:AO} {l:List AV} {av:AV} (ho:o.op=.load T x)(hT:aggB P T=some false)
  (hx:σ.ev x=some (.pt k i j))(hk:look k σ.M=some ob)(hf:ob.from_ i j=some l)(hm:l[0]?=some av)(hw:av.own=false):WV P C o σ av :=
 WV.val (fun G a w ok=>by
  obtain⟨p,e,h1,h2,h3⟩:=(ok.evr hx).2.pt_of
  obtain⟨u,_,_,hb⟩:=ok.cell hk hf hm h1 h2 h3 hw
  exact hb) fun G a w ok=>by
  obtain⟨p,e,h1,h2,h3⟩:=(ok.evr hx).2.pt_of
  obtain⟨u,hu,hr,_⟩:=ok.cell hk hf hm h1 h2 h3 hw
  rw [add_zero'] at hu
  exact⟨u,by unfold execOp;simp [ho,e,run_load1 hT hu],hr⟩
theorem WV.load1R {T:TypeId} {x:Operand} {cells:List AV} {av:AV} (ho:o.op=.load T x)(hT:aggB P T=some false)
  (hx:σ.ev x=some (.pr cells))(hm:cells[0]?=some av):WV P C o σ av :=
 WV.val (fun G a w ok=>by
  obtain⟨p,u,e,h1,h2⟩:=(ok.evr hx).2.pr_of.pr_of
  exact (h2 0 av hm).bd _) fun G a w ok=>by
  obtain⟨p,u,e,h1,h2⟩:=(ok.evr hx).2.pr_of.pr_of
  have hu:=ok.fw _ _ (h1 0 av hm).1
  rw [add_zero'] at hu
  exact⟨u 0,by unfold execOp;simp [ho,e,run_load1 hT hu],.pu _ _ (h2 0 av hm)⟩
theorem list_ofT {α:Type} (Q:Nat→α→Prop):∀ (n:Nat),(∀ j,j<n→∃ u,Q j u)→∃ l:List α,l.length=n∧∀ j u,l[j]?=some u→Q j u:=by
 intro n
 induction n with
 | zero=>intro _;exact⟨[],rfl,fun j u h=>by simp at h⟩
 | succ n ih =>
  intro h
  obtain⟨l,hl,hq⟩:=ih fun j hj=>h j zqo
  obtain⟨u,hu⟩:=h n zqo
  refine⟨l++[u],by simp [hl],fun j v hv=>?_⟩
  by_cases e:j<n
  ·rw [List.getElem?_append_left (by omega)]at hv;exact hq j v hv
  ·rw [List.getElem?_append_right (by omega)]at hv
   have hj:j-l.length<[u].length:=(List.getElem?_eq_some_iff.1 hv).1
   have:j=n:=by simp at hj;omega
   subst this
   simp [hl]at hv
   rw [← hv];exact hu
theorem WV.loadN {T n:Nat} {x:Operand} {k i j:Nat} {ob:AO} {l l':List AV} (ho:o.op=.load T x)(hT:aggB P T=some true)(hn:sizeB P T=some n)
  (hx:σ.ev x=some (.pt k i j))(hk:look k σ.M=some ob)(hf:ob.from_ i j=some l)(hl:l.take n=l')(hlen:l'.length=n)(hw:l'.all (fun av=>!av.own)=true):WV P C o σ (.ag l') :=
 have hw':∀ (m:Nat) av,l'[m]?=some av→av.own=false:=fun m av h=>by simpa using List.all_eq_true.1 hw av (List.mem_of_getElem? h)
 have hle:n≤l.length:=by rw [← hl,List.length_take] at hlen;omega
 have hat:∀ m av,l'[m]?=some av→l[m]?=some av:=fun m av h=>by
  have hlt:m<n:=by rw [← hlen];exact (List.getElem?_eq_some_iff.1 h).1
  rw [← hl,List.getElem?_take_of_lt hlt] at h;exact h
 WV.val (fun G a w ok=>by
  obtain⟨p,e,h1,h2,h3⟩:=(ok.evr hx).2.pt_of
  refine .ag _ fun m av hm=>?_
  obtain⟨u,_,_,hb⟩:=ok.cell hk hf (hat m av hm) h1 h2 h3 (hw' m av hm)
  exact hb) fun G a w ok=>by
  obtain⟨p,e,h1,h2,h3⟩:=(ok.evr hx).2.pt_of
  obtain⟨cs,hcl,hcq⟩:=list_ofT (fun m u=>w.cell? (p.add m)=some u∧∀ av,l'[m]?=some av→R G av u) n fun m hm=>by
   have hg:l'[m]?=some l'[m]:=List.getElem?_eq_getElem (by omega)
   obtain⟨u,hu,hr,_⟩:=ok.cell hk hf (hat m _ hg) h1 h2 h3 (hw' m _ hg)
   exact⟨u,hu,fun av h=>by rw [hg] at h;cases h;exact hr⟩
  refine⟨.agg cs.toArray,by unfold execOp;simp [ho,e,run_loadN hT hn hcl fun j v h=>(hcq j v h).1],.ag _ _ (by simp [hcl,hlen]) fun m av u hm hu=>(hcq m u (by simpa using hu)).2 av hm⟩
theorem WV.loadNR {T n:Nat} {x:Operand} {l l':List AV} (ho:o.op=.load T x)(hT:aggB P T=some true)(hn:sizeB P T=some n)
  (hx:σ.ev x=some (.pr l))(hl:l.take n=l')(hlen:l'.length=n):WV P C o σ (.ag l') :=
 have hat:∀ m av,l'[m]?=some av→l[m]?=some av:=fun m av h=>by
  have hlt:m<n:=by rw [← hlen];exact (List.getElem?_eq_some_iff.1 h).1
  rw [← hl,List.getElem?_take_of_lt hlt] at h;exact h
 WV.val (fun G a w ok=>by
  obtain⟨p,u,e,h1,h2⟩:=(ok.evr hx).2.pr_of.pr_of
  exact .ag _ fun m av hm=>(h2 m av (hat m av hm)).bd _) fun G a w ok=>by
  obtain⟨p,u,e,h1,h2⟩:=(ok.evr hx).2.pr_of.pr_of
  have hh:∀ (j:Nat) v,((List.range n).map u)[j]?=some v→w.cell? (p.add j)=some v:=fun j v h=>by
   have hj:j<n:=by simpa using(List.getElem?_eq_some_iff.1 h).1
   simp [hj] at h
   have hg:l'[j]?=some l'[j]:=List.getElem?_eq_getElem (by omega)
   rw [← h];exact ok.fw _ _ (h1 j _ (hat j _ hg)).1
  refine⟨.agg ((List.range n).map u).toArray,by unfold execOp;simp only [ho,e];rw [Sem.run_bind,run_loadN hT hn (by simp) hh];rfl,.ag _ _ (by simp [hlen]) fun m av v hm hv=>?_⟩
  have hj:m<n:=by rw [← hlen];exact (List.getElem?_eq_some_iff.1 hm).1
  simp [hj] at hv
  rw [← hv];exact .pu _ _ (h2 m av (hat m av hm))
end
end
end Go.Proofs.YtaeelcfjkhfpkaaGreat
