/- Whether a piece is too big: the law's own look. -/
import Derived.Lib.SmallJoins
import Derived.Test.YtgelfflighgajaaGreatDoorJnSq
set_option maxHeartbeats 4000000
set_option maxRecDepth 100000
set_option linter.unusedVariables false
set_option linter.unusedSimpArgs false
namespace Go.Proofs.YtgelfflighgajaaGreatDoor
section
open Go.RowKit Go.WideShapes Go.ChangeShapes Go.Joins Go.Deep
section
variable {H:Type} {enc:TypeId×Value→H} {P:Program} {w:World} {base:Nat} {spare:Nat→Bool} {held:Bool}
theorem post_of_below {f:Func} {s:ChangeSpec} {apart fresh handsOn again:Bool} {W W':World} {args:Array Value} {v:Value} {ds gs:List (DataW H)} {before pa pv:List MemPlace}
  (hW:DataW.Whole enc P f.params.toList s.vars apart W args.toList ds gs before)
  (hres:∀ (b:Nat) (sp:Nat→Bool) (hd:Bool),DataW.TrodAll enc P W' b sp hd f.resultTypes.toList (v.resultList f.resultTypes.size) (s.fn H (ds++gs)).results [])
  (hargs:∀ sp:Nat→Bool,(∀ p∈before,sp p.block=true)→DataW.TrodAll enc P W' 0 sp true f.params.toList args.toList (s.fn H (ds++gs)).args pa)
  (hvars:∀ sp:Nat→Bool,(∀ p∈before,sp p.block=true)→DataW.TrodVars enc P W' sp s.vars (s.fn H (ds++gs)).vars pv)
  (hps:before=pa++pv) (hb:Below W.heap.size W W')
  (hok:∀ (j:Nat) (t:TypeId) (r:Value),f.resultTypes[j]?=some t→(v.resultList f.resultTypes.size)[j]?=some r→Value.okWide P W' .any 0 t r) :
  s.post enc P f apart fresh handsOn again W args v W':=by
 have hlt:∀ p∈before,p.block<W.heap.size:=fun p hp=>hW.lt p hp
 have hold:∀ p∈before,(fun b=>decide (b<W.heap.size)) p.block=true:=fun p hp=>by simpa using hlt p hp
 refine ⟨ds,gs,before,[],pa,pv,hW,hres _ _ _,hargs _ hold,hvars _ hold,World.keptBut_mono (fun p hp=>⟨hp,?_⟩) (hb.frame (·∈before)),fun _=>?_⟩
 ·rw [hps,List.mem_append] at hp
  exact Or.inr hp
 ·obtain ⟨_,_,_,_,_,hz,hn⟩:=hW
  refine ⟨hok,_,_,([]++pa)++pv,⟨[]++pa,pv,trodAll_append (hargs _ (fun _ _=>rfl)) (hres _ _ _),hvars _ (fun _ _=>rfl),rfl,?_,?_⟩,?_⟩
  ·intro b off hp
   have hin:MemPlace.cell b off∈before:=by rw [hps];simpa using hp
   rw [hb.frozen (hlt _ hin)]
   exact hz b off hin
  ·intro ha
   have:=hn ha
   rw [hps] at this
   simpa using this
  ·intro p hp _
   rw [hps]
   simpa using hp
end
end
section
open Go.RowKit
abbrev Lck:=Int×Int×Int
def lckCells(x:Lck):List Value:=[.int .i64 x.1,.int .i64 x.2.1,.int .i64 x.2.2]
def SayAt (w:World)(B0 b:Nat)(l:List Lck):Prop :=
 ∃ Q d,Blk w b 204 #[.slice Q l.length d]∧w.ownsRow B0 308 3 (.slice Q l.length d) l.length (l.map lckCells).flatten
end
section
open Go.RowKit
def onB:AV→Bool
 | .sc v=>v.oneCell'
 | .ls _ _=>true
 | _=>false
def lendP (M:List (Nat×AO)):AV→AV
 | .pt k 0 0=>match look k M with
  | some (.box _ cells)=>bif cells.all onB then .pr cells else .pt k 0 0
  | _=>.pt k 0 0
 | av=>lendB M av
def lendC (M:List (Nat×AO)):AV→AV
 | .fn f l=>.fn f (l.map (lendP M))
 | av=>lendP M av
section
variable {B:World→View→Prop} {gl:Nat} {P:Program} {C:Cx} {ops:Array Oper} {rest:List Oper} {σ σ':St} {G G':Gh} {a:Act} {w w':World} {o:Oper} {d:Tmp} {Q:Exit→St→Prop}
theorem onB_of {av:AV} {u:Value} (h:onB av=true)(r:R G av u):u.oneCell'=true∧RP G.F av u∧av.own=false:=by
 cases av with
 | sc v =>
  obtain rfl:=r.sc_eq
  exact⟨h,.sc _,rfl⟩
 | ls n rows =>
  have h2:RP G.F (.ls n rows) u:=(pu2_bd (av:=.ls n rows) rfl 0).rp r
  obtain⟨A,cap,ad,u',rfl,_⟩:=h2.ls_of
  exact⟨rfl,h2,rfl⟩
 | _=>cases h
theorem lendP_rp (ok:Ok C σ G a w) {av:AV} {v:Value} (h:R G av v) (hp:(lendP σ.M av).pu2=true):RP (fun q=>w.cell? q) (lendP σ.M av) v:=by
 have hF:G.F.le fun q=>w.cell? q:=fun p u x=>ok.fw p u x
 cases av with
 | pt k i j =>
  cases i with
  | succ i=>exact lend_rp ok h hp
  | zero =>
   cases j with
   | succ j=>exact lend_rp ok h hp
   | zero =>
    cases hk:look k σ.M with
    | none =>
     have e:lendP σ.M (.pt k 0 0)=.pt k 0 0:=by simp only [lendP,hk]
     rw [e] at hp;cases hp
    | some ob =>
     cases ob with
     | box T cells =>
      have e:lendP σ.M (.pt k 0 0)=bif cells.all onB then .pr cells else .pt k 0 0:=by simp only [lendP,hk]
      rw [e] at hp ⊢
      cases hc:cells.all onB with
      | false=>rw [hc] at hp;cases hp
      | true =>
       obtain ⟨p,rfl,h1,h2,h3⟩:=h.pt_of
       have hcell:∀ (j:Nat) av,cells[j]?=some av→∃ u,w.cell? (p.add j)=some u∧u.oneCell'=true∧RP G.F av u:=fun j av hj=>by
        have hb:=List.all_eq_true.1 hc av (List.mem_of_getElem? hj)
        have ho:av.own=false:=by cases av<;>first|rfl|cases hb
        obtain ⟨u,hu,hr,_⟩:=ok.cell (i:=0) (j:=0) (l:=cells) hk rfl hj h1 h2 h3 ho
        obtain ⟨q1,q2,_⟩:=onB_of hb hr
        exact ⟨u,hu,q1,q2⟩
       show RP _ (.pr cells) _
       refine .pr cells p (fun j=>(w.cell? (p.add j)).getD undef) (fun j av hj=>?_) (fun j av hj=>?_)
       ·obtain ⟨u,hu,q1,q2⟩:=hcell j av hj
        rw [hu];exact ⟨rfl,q1⟩
       ·obtain ⟨u,hu,q1,q2⟩:=hcell j av hj
        rw [hu];exact q2.mono hF
     | _ =>
      have e:lendP σ.M (.pt k 0 0)=.pt k 0 0:=by simp only [lendP,hk]
      rw [e] at hp;cases hp
 | _=>exact lend_rp ok h hp
theorem lendC_rp (ok:Ok C σ G a w) {av:AV} {v:Value} (h:R G av v) (hp:(lendC σ.M av).pu2=true):RP (fun q=>w.cell? q) (lendC σ.M av) v:=by
 cases av with
 | fn f l =>
  obtain ⟨cs,rfl,h1,h2⟩:=h.fn_of
  show RP _ (.fn f (l.map (lendP σ.M))) _
  refine .fn f _ cs (by rw [h1,List.length_map]) fun i av u a b=>?_
  rw [List.getElem?_map] at a
  cases hi:l[i]? with
  | none=>simp [hi] at a
  | some av0 =>
   simp only [hi,Option.map_some,Option.some.injEq] at a
   subst a
   refine lendP_rp ok (h2 i av0 u hi b) ?_
   have hall:(l.map (lendP σ.M)).all AV.pu00=true:=hp
   have h3:(lendP σ.M av0).pu00=true:=List.all_eq_true.1 hall _ (List.mem_of_getElem? (by rw [List.getElem?_map,hi];rfl))
   generalize lendP σ.M av0=q at h3 ⊢
   cases q<;>first|rfl|cases h3
 | _=>exact lendP_rp ok h hp
theorem WV.lendV (hB:Holds B gl C) {f:FuncId} {y:Operand} {fv:AV} {xs:Array Operand} {ts:Array TypeId} {args0 caps args args':List AV} {res:Value} (ho:o.op=.call { callee:=.value y,args:=xs,argTypes:=ts }) (hc:∀ vs w,(callFunc f vs).run P w=.ok (.enter f vs) w)
  (hy:σ.ev y=some fv) (hf:fnOf fv=some (f,caps)) (hx:σ.evs xs.toList=some args0) (hcat:args0++caps=args) (hl:args.map (lendC σ.M)=args') (hp:args'.all AV.pu2=true) (hst:∀ w F F',View.le F F'→B w F→B w F') (h:Ctg B P f args' (.sc res)):WV P C o σ (.sc res):=by
 intro G a w ok N Q' hN
 obtain ⟨cs,ey,h1,h2⟩:=fnOf_of hf (ok.evr hy).2
 obtain ⟨e1,e2⟩:=ok.evl2 hx h1 h2 hcat
 subst hl
 have hF:G.F.le fun q=>w.cell? q:=fun p u x=>ok.fw p u x
 refine call_wp ho hc ey (h w (fun q=>w.cell? q) _ (hst w _ _ hF (hB.1 w G.F ok.bel ok.f0)) (fun _ _ x=>x) ⟨by rw [e1,List.length_map],fun i av u p q=>?_⟩) fun e w1 ⟨v,F',he,hb,h1,h2,h3,h4⟩=>?_
 ·rw [List.getElem?_map] at p
  cases hi:args[i]? with
  | none=>simp [hi] at p
  | some av0 =>
   simp only [hi,Option.map_some,Option.some.injEq] at p
   subst p
   exact lendC_rp ok (e2 i av0 u hi q) (List.all_eq_true.1 hp _ (List.mem_of_getElem? (by rw [List.getElem?_map,hi];rfl)))
 ·have hv:=h4.sc_eq
  subst hv
  exact ⟨_,he,hN _ { G with F:=G.F } w1 (fun σ'' a'' ok''=>ok''.called hb (fun _ _ x=>x) (fun p u x=>by rw [hb.cell (cell_block (ok.fw p u x))];exact ok.fw p u x) (fun _ _ x=>.inl x)) (.pu _ _ (.sc _)) (RP.bd (F:=G.F) (.sc _) _)⟩
end
end
section
open Go.RowKit
attribute [local go_sem]mk_bs bs_size bs_toList bs_append bs_extract
attribute [local simp]run_cut run_cut_to run_cut_from run_add_bs
theorem of_4 (w:World):Calls Tryz.prog 122 #[.int .u8 4] w fun e w'=>e=.returned (.tuple #[(.iface 261 (.agg #[])),.bool true])∧w=w':=by
 go_enter Tryz.func122,Tryz.ntmps122
 go_wp2
 go_ret2
 exact⟨rfl,rfl⟩
end
section
open Go.RowKit
attribute [local go_sem]mk_bs bs_size bs_toList bs_append bs_extract
attribute [local simp]run_cut run_cut_to run_cut_from run_add_bs
theorem right_any (v:Int) (d t:Bool) (w:World):Calls Tryz.prog 137 #[.agg #[.int .i64 v,.bool d,.bool t]] w (Ret (.bool (sgOk v d t)) w):=by
 by_cases h0:v=0
 ·subst h0
  cases d<;>cases t
  all_goals
   go_enter Tryz.func137,Tryz.ntmps137
   go_wp2
   go_ret
   exact Ret.mk' rfl zqb
 ·have hb:(v == 0)=false:=by simpa using h0
  have e:sgOk v d t=(decide (1≤v) && decide (v≤7) && !(d && t)):=by unfold sgOk;rw [hb];simp
  rw [e]
  clear e
  by_cases h1:1≤v
  ·by_cases h7:v≤7
   ·cases d<;>cases t
    all_goals
     go_enter Tryz.func137,Tryz.ntmps137
     go_wp2
     go_ret
     exact Ret.mk' (by simp [h1,h7]) zqb
   ·rw [show (decide (1≤v) && decide (v≤7) && !(d && t))=false from by rw [decide_eq_false h7];simp]
    go_enter Tryz.func137,Tryz.ntmps137
    go_wp2
    go_ret
    exact Ret.mk' rfl zqb
  ·rw [show (decide (1≤v) && decide (v≤7) && !(d && t))=false from by rw [decide_eq_false h1];simp]
   go_enter Tryz.func137,Tryz.ntmps137
   go_wp2
   go_ret
   exact Ret.mk' rfl zqb
end
section
open Go.RowKit
def tame:Op→Bool
 | .move _=>true
 | .assign _=>true
 | .alloc _=>true
 | .box _ _=>true
 | .load _ _=>true
 | .store _ _ _=>true
 | .fieldAddr _ _ _=>true
 | .field _ _ _=>true
 | .indexAddr _ _ _=>true
 | .index _ _ _=>true
 | _=>false
structure Laid (ops A:Array Oper)(π ρ:Nat→Nat)(i j:Nat):Prop where
 sz:A.size=ops.size
 lt:∀ p,p<ops.size→π p<ops.size
 inv:∀ p,p<ops.size→ρ (π p)=p
 ltr:∀ q,q<ops.size→ρ q<ops.size
 inr:∀ q,q<ops.size→π (ρ q)=q
 hi:i<ops.size
 hj:j<ops.size
 op:∀ (p:Nat)(o:Oper),ops[p]?=some o→∃ X:Array Edge,A[π p]?=some { o with after:=X }∧(∀ e∈X,Region.binds .any e=true→(∃ e'∈o.after,Region.binds .any e'=true∧e.on=π e'.on)∨(p=j∧e.on=π i)) ∧
  (∀ e'∈o.after,Region.binds .any e'=true→∃ e∈X,Region.binds .any e=true∧e.on=π e'.on)
 tm:∀ (p:Nat)(o:Oper),ops[p]?=some o→tame o.op=true∧o.guard=none∧∀ e∈o.after,e.on<ops.size
structure Agr (n:Nat)(π:Nat→Nat)(L LA:Array Bool):Prop where
 s1:L.size=n
 s2:LA.size=n
 at_:∀ p,p<n→LA.getD (π p) false=L.getD p false
end
section
open Go.RowKit
section
variable {P:Program} {C:Cx} {σ σ':St} {G G':Gh} {a:Act} {w w':World} {ops:Array Oper} {Q:Exit→St→Prop}
def DoesS (P:Program) (C:Cx) (ops:Array Oper) (o:Oper) (σ:St) (av:AV) (M':List (Nat×AO)) (nk':Nat):Prop :=
 o.guard=none∧∀ t,(∀ q∈o.looksAt ops,look q t=look q σ.t)→WO P C o ⟨t,σ.M,σ.nk⟩ ⟨ent1 o.dst true av++t,M',nk'⟩
inductive DS (P:Program) (C:Cx) (ops:Array Oper) (mem:List Bool) (Mc:List (Nat×AO)) (nk0:Nat):Nat→List Oper→St→St→Prop
 | nil (k:Nat) (σ:St):DS P C ops mem Mc nk0 k [] σ σ
 | val (k:Nat) (o:Oper) (rest:List Oper) (d:Tmp) (av:AV) (nk:Nat) (σ σ':St):mem.getD k false=false→o.dst=some d→Nat.blt d C.N=true→(nk=nk0∨(nk=σ.nk∧behindB ops mem k=true))→DoesV P C ops o σ.t Mc nk av →
   DS P C ops mem Mc nk0 (k+1) rest (σ.put d av) σ'→DS P C ops mem Mc nk0 k (o::rest) σ σ'
 | mem (k:Nat) (o:Oper) (rest:List Oper) (av:AV) (M':List (Nat×AO)) (nk':Nat) (σ σ':St):mem.getD k false=true→Nat.ble σ.nk nk'=true→msSub Mc M'→DoesS P C ops o σ av M' nk' →
   DS P C ops mem Mc nk0 (k+1) rest ⟨ent1 o.dst true av++σ.t,M',nk'⟩ σ'→DS P C ops mem Mc nk0 k (o::rest) σ σ'
end
end
section
open Go.RowKit
section
variable {B:World→View→Prop} {gl:Nat} {P:Program} {C:Cx} {σ:St} {o:Oper} {d:Tmp} {ops:Array Oper} {rest:List Oper} {Q:Exit→St→Prop}
theorem set_same_ {α:Type} {l:List α} {i:Nat} {x:α} (h:l[i]?=some x):l.set i x=l:=by
 obtain⟨hi,rfl⟩:=List.getElem?_eq_some_iff.1 h
 exact List.set_getElem_self hi
end
end
section
open Go.RowKit
section
variable {P:Program} {C:Cx} {σ:St} {o:Oper} {d:Tmp} {ops:Array Oper} {rest:List Oper} {Q:Exit→St→Prop} {mem:List Bool} {Mc:List (Nat×AO)} {nk0 k:Nat}
theorem put_row {T n i j:Nat} {rows:List (List AV)} {r l:List AV} (hr:rows[i]?=some r) (hj:j+l.length≤r.length) (hp:l.all AV.pu0=true):(AO.row T n rows).put i j l=some (.row T n (rows.set i (putL j l r))):=by
 simp only [AO.put,hr]
 rw [if_pos ⟨hj,hp⟩]
end
end
section
open Go.RowKit
def Gh.fpk(G:Gh)(k:Nat)(φ:Nat→Prop):Gh:=⟨G.F,G.b,G.n,G.h,fun q=>if q=k then φ else G.fp q⟩
theorem fpk_le (G:Gh)(k:Nat)(φ:Nat→Prop)(nk:Nat):G.le (G.fpk k φ) nk:=⟨fun _ _ h=>h,fun _ _=>rfl,fun _ _=>rfl,fun _ _=>rfl⟩
theorem fpk_same {G:Gh} {k:Nat} {φ:Nat→Prop}:(G.fpk k φ).fp k=φ:=if_pos rfl
theorem fpk_other {G:Gh} {k q:Nat} {φ:Nat→Prop} (h:q≠k):(G.fpk k φ).fp q=G.fp q:=if_neg h
section
variable {B:World→View→Prop} {gl:Nat} {P:Program} {C:Cx} {σ σ':St} {G G':Gh} {a:Act} {w w':World} {o:Oper} {d:Tmp} {ops:Array Oper} {rest:List Oper} {Q:Exit→St→Prop}
theorem Ok.refp (ok:Ok C σ G a w) {k:Nat} {ob ob':AO} {φ:Nat→Prop} (hk:look k σ.M=some ob) (hob:ObAt (G.fpk k φ) w k ob') (hbd:ob'.bd σ.nk)
  (hφ:∀ x,φ x→C.may x∧x<w.heap.size∧(∀ i o,i≠k→look i σ.M=some o→¬ G.fp i x)∧∀ p u,G.F p=some u→p.block≠x):Ok C (σ.upd k ob') (G.fpk k φ) a w:=by
 have hl:∀ k' o,look k' (σ.upd k ob').M=some o→(k'=k∧o=ob')∨(k'≠k∧look k' σ.M=some o):=fun k' o hx=>by
  by_cases e:k'=k
  ·subst e
   rw [show look k' (σ.upd k' ob').M=some ob' from look_set_same] at hx
   cases hx
   exact .inl ⟨rfl,rfl⟩
  ·rw [show look k' (σ.upd k ob').M=look k' σ.M from look_set_other e] at hx
   exact .inr ⟨e,hx⟩
 refine ⟨ok.sz,ok.df,fun i av h=>⟨(ok.tm i av h).1,(ok.tm i av h).2.1,(ok.tm i av h).2.2.mono (fpk_le G k φ σ.nk) (ok.tm i av h).2.1⟩,ok.bel,ok.fw,ok.f0,ok.f1,fun i o h=>?_,fun i o x h1 h2=>?_,fun i o i' o' x h1 h2 h3 h4=>?_,fun i o x p u h1 h2 h3=>?_⟩
 ·rcases hl i o h with⟨rfl,rfl⟩|⟨e,y⟩
  ·exact ⟨(ok.ob i _ hk).1,hbd,hob⟩
  ·obtain ⟨a1,a2,a3⟩:=ok.ob i o y
   exact ⟨a1,a2,a3.keep (fpk_le G k φ σ.nk) a1 a2 (fpk_other e) fun _ _=>rfl⟩
 ·rcases hl i o h1 with⟨rfl,rfl⟩|⟨e,y⟩
  ·rw [fpk_same] at h2;exact ⟨(hφ x h2).1,(hφ x h2).2.1⟩
  ·rw [fpk_other e] at h2;exact ok.my i o x y h2
 ·rcases hl i o h1 with⟨rfl,rfl⟩|⟨e,y⟩
  ·rcases hl i' o' h2 with⟨rfl,rfl⟩|⟨e',y'⟩
   ·rfl
   ·rw [fpk_same] at h3
    rw [fpk_other e'] at h4
    exact absurd h4 ((hφ x h3).2.2.1 i' o' e' y')
  ·rcases hl i' o' h2 with⟨rfl,rfl⟩|⟨e',y'⟩
   ·rw [fpk_same] at h4
    rw [fpk_other e] at h3
    exact absurd h3 ((hφ x h4).2.2.1 i o e y)
   ·rw [fpk_other e] at h3
    rw [fpk_other e'] at h4
    exact ok.dj i o i' o' x y y' h3 h4
 ·rcases hl i o h1 with⟨rfl,rfl⟩|⟨e,y⟩
  ·rw [fpk_same] at h2;exact (hφ x h2).2.2.2 p u h3
  ·rw [fpk_other e] at h2;exact ok.dF i o x p u y h2 h3
theorem RowIs.open_ {F:View} {T n:Nat} {rows:List (List AV)} {v:Value} {φ:Nat→Prop} (h:RowIs w T n rows v φ (XO F w)) {i j:Nat} {r:List AV} {av:AV} (hr:rows[i]?=some r) (hj:r[j]?=some av) :
  ∃ u ψ,OW F w av u ψ∧(∀ x,ψ x→φ x)∧u.oneCell'=true∧∀ (X:Nat→Nat→(Nat→Prop)→AV→Value→Prop),(∀ χ,X i j χ av u)→(∀ q s χ y z,¬ (q=i∧s=j)→OW F w y z χ→X q s χ y z)→RowIs w T n rows v (fun x=>φ x∧¬ ψ x) X:=by
 obtain ⟨h1,vs,Φ,h2,h3,h4,h5,h6,h7,h8,h9⟩:=h
 have hi:i<rows.length:=(List.getElem?_eq_some_iff.1 hr).1
 have hv:vs[i]?=some vs[i]:=List.getElem?_eq_getElem (by omega)
 have e1:=h8 i r _ hr hv
 have hjl:j<vs[i].length:=by rw [e1];exact (List.getElem?_eq_some_iff.1 hj).1
 have hu:vs[i][j]?=some vs[i][j]:=List.getElem?_eq_getElem hjl
 refine ⟨vs[i][j],Φ i j,h9 i r _ j av _ hr hv hj hu,fun x hx=>(h6 i j x hx).1,h4 _ (List.getElem_mem _) _ (List.getElem_mem _),fun X hX hO=>?_⟩
 refine ⟨h1,vs,fun q s x=>¬ (q=i∧s=j)∧Φ q s x,h2,h3,h4,fun g hg=>⟨h5 g hg,fun hx=>(h6 i j g hx).2 hg⟩,fun q s x hx=>⟨⟨(h6 q s x hx.2).1,fun hy=>hx.1 ((h7 q s i j x hx.2 hy))⟩,(h6 q s x hx.2).2⟩,fun q s q' s' x hx hy=>h7 q s q' s' x hx.2 hy.2,h8,fun q r1 r2 s y z a1 a2 a3 a4=>?_⟩
 by_cases e:q=i∧s=j
 ·obtain ⟨rfl,rfl⟩:=e
  rw [hr] at a1;cases a1
  rw [hv] at a2;cases a2
  rw [hj] at a3;cases a3
  rw [hu] at a4;cases a4
  exact hX _
 ·have:(fun x=>¬ (q=i∧s=j)∧Φ q s x)=Φ q s:=by
   funext x
   exact propext ⟨fun hx=>hx.2,fun hx=>⟨e,hx⟩⟩
  show X q s (fun x=>¬ (q=i∧s=j)∧Φ q s x) y z
  rw [this]
  exact hO q s _ y z e (h9 q r1 r2 s y z a1 a2 a3 a4)
theorem Tr.open_ (k i j:Nat) {T n T' n' m:Nat} {rows rows':List (List AV)} {r:List AV} (hk:look k σ.M=some (.rwn T n rows)) (hr:rows[i]?=some r) (hj:r[j]?=some (.ow T' n' rows')) (hp:∀ q∈rows',∀ av∈q,av.own=false) (hm:σ.nk=m) :
  Tr C σ ((σ.new (.row T' n' rows')).upd k (.rwo T n rows i j (.sl m))):=fun G a w ok=>by
 subst hm
 obtain ⟨g1,_,g3,g4,g5⟩:=ok.ob k _ hk
 obtain ⟨u,ψ,hO,hψ,hone,hX⟩:=g5.open_ hr hj
 have hR:=hO.row
 have ok1:=ok.refp (φ:=fun x=>G.fp k x∧¬ ψ x) (ob':=.rwo T n rows i j (.sc u)) hk ⟨g3,g4,by
  rw [fpk_same]
  refine hX (XQ (G.fpk k _) w i j (.sc u)) (fun χ=>?_) fun q s χ y z hne hy=>?_
  ·unfold XQ
   rw [if_pos ⟨rfl,rfl⟩]
   exact .pu _ _ (.sc u)
  ·unfold XQ
   rw [if_neg hne]
   exact hy⟩ (.sc u) fun x hx=>⟨(ok.my k _ x hk hx.1).1,(ok.my k _ x hk hx.1).2,fun q oq hq h1 h2=>hq (ok.dj q oq k _ x h1 hk h2 hx.1),fun p v=>ok.dF k _ x p v hk hx.1⟩
 have ok2:=ok1.newObj (S:=fun _=>False) (b:=u.ownBlock.getD 0) (n:=n') (h:=u) (φ:=ψ) (ob:=.row T' n' rows') (Kept.refl _ w) (fun _ h=>h.elim) (fun _ _ _ _ _ h=>h) (fun _ _ _ h=>h)
  ⟨with_n,(fun g hg=>by rw [with_h] at hg;rw [with_b,hg];rfl),by
   rw [with_h,with_f]
   exact hR.keep (fun _ _=>rfl) fun q rr s av χ z a1 a2 _ x=>OW.p x (hp rr (List.mem_of_getElem? a1) av (List.mem_of_getElem? a2))⟩ trivial
  (fun x hx=>⟨(ok.my k _ x hk (hψ x hx)).1,(ok.my k _ x hk (hψ x hx)).2,fun q oq h1 h2=>by
   by_cases e:q=k
   ·subst e
    rw [fpk_same] at h2
    exact h2.2 hx
   ·rw [fpk_other e] at h2
    rw [show look q (σ.upd k _).M=look q σ.M from look_set_other e] at h1
    exact e (ok.dj q oq k _ x h1 hk h2 (hψ x hx)),fun p v h1=>ok.dF k _ x p v hk (hψ x hx) h1⟩)
 have hkn:k≠(σ.upd k (.rwo T n rows i j (.sc u))).nk:=Nat.ne_of_lt g1
 have hk2:look k ((σ.upd k (.rwo T n rows i j (.sc u))).new (.row T' n' rows')).M=some (.rwo T n rows i j (.sc u)):=(look_set_other hkn).trans look_set_same
 obtain ⟨b1,b2,b3,b4,b5⟩:=ok2.ob k _ hk2
 have ok3:=ok2.reob (ob':=.rwo T n rows i j (.sl σ.nk)) hk2 ⟨b1,.sl _ (Nat.lt_succ_self _),b3,b4,b5.keep (fun _ _=>rfl) fun q rr s av χ z _ _ _ x=>by
  unfold XQ at x ⊢
  by_cases e:q=i∧s=j
  ·rw [if_pos e] at x ⊢
   rw [x.sc_eq]
   exact with_sl hone
  ·rw [if_neg e] at x ⊢
   exact x⟩
 have hl:∀ q,look q ((σ.new (.row T' n' rows')).upd k (.rwo T n rows i j (.sl σ.nk))).M=look q (((σ.upd k (.rwo T n rows i j (.sc u))).new (.row T' n' rows')).upd k (.rwo T n rows i j (.sl σ.nk))).M:=fun q=>by
  by_cases e:q=k
  ·subst e;exact look_set_same.trans look_set_same.symm
  ·refine (look_set_other e).trans (Eq.trans ?_ (look_set_other e).symm)
   by_cases e2:q=σ.nk
   ·subst e2;exact look_set_same.trans look_set_same.symm
   ·exact (look_set_other e2).trans ((look_set_other e2).trans (look_set_other e)).symm
 exact ⟨_,ok3.sz,ok3.df,ok3.tm,ok3.bel,ok3.fw,ok3.f0,ok3.f1,fun q x hx=>ok3.ob q x (by rw [← hl];exact hx),fun q x y hx=>ok3.my q x y (by rw [← hl];exact hx),fun q x q' x' y hx hx'=>ok3.dj q x q' x' y (by rw [← hl];exact hx) (by rw [← hl];exact hx'),fun q x y p u hx=>ok3.dF q x y p u (by rw [← hl];exact hx)⟩
theorem Tr.close_ (k:Nat) {T n T' n' m i j:Nat} {rows rows' rows2:List (List AV)} {r:List AV} (hk:look k σ.M=some (.rwo T n rows i j (.sl m))) (hm:look m σ.M=some (.row T' n' rows')) (hkm:Nat.beq k m=false) (hr:rows[i]?=some r) (hj:j<r.length) (he:rows.set i (r.set j (.ow T' n' rows'))=rows2) :
  Tr C σ ((σ.drop m).upd k (.rwn T n rows2)):=fun G a w ok=>by
 subst he
 have hne:k≠m:=fun e=>by rw [e,Nat.beq_refl] at hkm;cases hkm
 obtain ⟨g1,_,g3,g4,g5⟩:=ok.ob k _ hk
 obtain ⟨m1,_,m3,m4,m5⟩:=ok.ob m _ hm
 have okd:=ok.drop_ m
 have hkd:look k (σ.drop m).M=some (.rwo T n rows i j (.sl m)):=by
  show look k (rem m σ.M)=_
  rw [look_rem,if_neg hne];exact hk
 have hIn:OW G.F w (.ow T' n' rows') (G.h m) (G.fp m):=(m5.keep (X':=XO G.F w) (fun _ _=>rfl) fun q rr s av χ z _ _ _ x=>.pu _ _ _ x).ow
 have hi:i<rows.length:=(List.getElem?_eq_some_iff.1 hr).1
 have hdj:∀ x,G.fp k x→G.fp m x→False:=fun x h1 h2=>hne (ok.dj k _ m _ x hk hm h1 h2)
 refine ⟨G.fpk k (fun x=>G.fp k x∨G.fp m x),okd.refp hkd ⟨g3,g4,?_⟩ trivial fun x hx=>?_⟩
 ·rw [fpk_same]
  obtain ⟨h1,vs,Φ,h2,h3,h4,h5,h6,h7,h8,h9⟩:=g5
  have key:∀ q s,(if q=i∧s=j then (fun (_:Unit)=>G.fp m) else (fun _=>Φ q s)) ()=fun x=>(q=i∧s=j∧G.fp m x)∨(¬ (q=i∧s=j)∧Φ q s x):=fun q s=>by
   by_cases e:q=i∧s=j
   ·rw [if_pos e]
    funext x
    exact propext ⟨fun h=>.inl ⟨e.1,e.2,h⟩,fun h=>h.elim (fun y=>y.2.2) fun y=>absurd e y.1⟩
   ·rw [if_neg e]
    funext x
    exact propext ⟨fun h=>.inr ⟨e,h⟩,fun h=>h.elim (fun y=>absurd ⟨y.1,y.2.1⟩ e) fun y=>y.2⟩
  refine ⟨fun q hq=>?_,vs,fun q s x=>(q=i∧s=j∧G.fp m x)∨(¬ (q=i∧s=j)∧Φ q s x),h2,by simpa using h3,h4,fun g hg=>.inl (h5 g hg),fun q s x hx=>?_,fun q s q' s' x hx hy=>?_,fun q r1 r2 a1 a2=>?_,fun q r1 r2 s y z a1 a2 a3 a4=>?_⟩
  ·rcases List.mem_or_eq_of_mem_set hq with hq|rfl
   ·exact h1 q hq
   ·rw [List.length_set];exact h1 r (List.mem_of_getElem? hr)
  ·rcases hx with⟨_,_,hx⟩|⟨_,hx⟩
   ·exact ⟨.inr hx,fun e=>hdj x (h5 x e) hx⟩
   ·exact ⟨.inl (h6 q s x hx).1,(h6 q s x hx).2⟩
  ·rcases hx with⟨e1,e2,hx⟩|⟨_,hx⟩
   ·rcases hy with⟨e3,e4,hy⟩|⟨_,hy⟩
    ·exact ⟨e1.trans e3.symm,e2.trans e4.symm⟩
    ·exact (hdj x (h6 _ _ x hy).1 hx).elim
   ·rcases hy with⟨e3,e4,hy⟩|⟨_,hy⟩
    ·exact (hdj x (h6 _ _ x hx).1 hy).elim
    ·exact h7 q s q' s' x hx hy
  ·by_cases e:i=q
   ·subst e
    rw [List.getElem?_set_self hi] at a1
    cases a1
    rw [List.length_set];exact h8 i r r2 hr a2
   ·rw [List.getElem?_set_ne e] at a1
    exact h8 q r1 r2 a1 a2
  ·show OW G.F w y z (fun x=>(q=i∧s=j∧G.fp m x)∨(¬ (q=i∧s=j)∧Φ q s x))
   rw [← key q s]
   by_cases e:i=q
   ·subst e
    rw [List.getElem?_set_self hi] at a1
    cases a1
    by_cases e2:j=s
    ·subst e2
     rw [List.getElem?_set_self hj] at a3
     cases a3
     rw [if_pos ⟨rfl,rfl⟩]
     have:=h9 i r r2 j r[j] z hr a2 (List.getElem?_eq_getElem hj) a4
     unfold XQ at this
     rw [if_pos ⟨rfl,rfl⟩] at this
     rw [this.sl_of.1]
     exact hIn
    ·rw [List.getElem?_set_ne e2] at a3
     rw [if_neg (fun h=>e2 h.2.symm)]
     have:=h9 i r r2 s y z hr a2 a3 a4
     unfold XQ at this
     rw [if_neg (fun h=>e2 h.2.symm)] at this
     exact this
   ·rw [List.getElem?_set_ne e] at a1
    rw [if_neg (fun h=>e h.1.symm)]
    have:=h9 q r1 r2 s y z a1 a2 a3 a4
    unfold XQ at this
    rw [if_neg (fun h=>e h.1.symm)] at this
    exact this
 ·have old:∀ q oq,look q σ.M=some oq→(q=k∨q=m)→G.fp q x→C.may x∧x<w.heap.size∧(∀ i o,i≠k→look i (σ.drop m).M=some o→¬ G.fp i x)∧∀ p u,G.F p=some u→p.block≠x:=fun q oq hq hkq hx=>by
   refine ⟨(ok.my q oq x hq hx).1,(ok.my q oq x hq hx).2,fun i' o' hi' h1 h2=>?_,fun p u=>ok.dF q oq x p u hq hx⟩
   obtain ⟨d1,d2⟩:=drop_look h1
   have:=ok.dj i' o' q oq x d2 hq h2 hx
   rcases hkq with e|e
   ·exact hi' (this.trans e)
   ·exact d1 (this.trans e)
  rcases hx with hx|hx
  ·exact old k _ hk (.inl rfl) hx
  ·exact old m _ hm (.inr rfl) hx
theorem WO.stQ {T T' n:Nat} {x y:Operand} {k i j:Nat} {ob:AO} {rows:List (List AV)} {r:List AV} {av:AV} (ho:o.op=.store T x y) (hds:o.dst=none) (hn:sizeB P T=some 1) (hx:σ.ev x=some (.pt k i j)) (hk:look k σ.M=some ob) (hob:ob=.rwn T' n rows∨∃ y,ob=.rwo T' n rows i j y) (hy:σ.ev y=some av)
  (h1:av.oneB=true) (hr:rows[i]?=some r) (hj:j < r.length):WO P C o σ (σ.upd k (.rwo T' n rows i j av)):=by
 intro G a w ok N Q' hN
 obtain ⟨p,ep,p1,p2,p3⟩:=(ok.evr hx).2.pt_of
 obtain ⟨hb,hr2⟩:=ok.evr hy
 obtain ⟨hB,hcl⟩:=oneB_cells h1
 obtain ⟨c1,c2⟩:=cells_of hr2 hB
 rw [hcl] at c1 c2
 obtain ⟨v,hv⟩:∃ v,a.eval y=v:=⟨_,rfl⟩
 rw [hv] at c1 c2
 have c1':v.cells.size=1:=c1
 have hone:∀ u∈v.cells.toList,u.oneCell'=true:=fun u hu=>by
  obtain ⟨q,hq,rfl⟩:=List.getElem_of_mem hu
  have hq':q < v.cells.size:=by simpa using hq
  obtain rfl:q=0:=by omega
  exact oneB_of (c2 0 av _ rfl (by simp at hq;simp [hq])) h1
 obtain rfl:=addr_eq p1 p2 p3
 obtain ⟨hn',hg,X,hR,hXO⟩:G.n k=n∧(∀ g,(G.h k).ownBlock=some g→g=G.b k)∧∃ X,RowIs w T' n rows (G.h k) (G.fp k) X∧∀ q s χ y z,¬ (q=i∧s=j)→X q s χ y z→OW G.F w y z χ:=by
  rcases hob with e|⟨y0,e⟩
  ·subst e
   obtain ⟨q1,q2,q3⟩:=(ok.ob k _ hk).2.2
   exact ⟨q1,q2,_,q3,fun q s χ y z _ h=>h⟩
  ·subst e
   obtain ⟨q1,q2,q3⟩:=(ok.ob k _ hk).2.2
   refine ⟨q1,q2,_,q3,fun q s χ y z hne h=>?_⟩
   unfold XQ at h
   rw [if_neg hne] at h
   exact h
 obtain ⟨g,cur,hvg,hφg,hh⟩:=hR.blk (by have:=(List.getElem?_eq_some_iff.1 hr).1;omega)
 have hgb:=hg g hvg
 have hpu:putL j [r[j]] r=r:=by rw [putL_one _ _ _ hj];exact set_same_ (List.getElem?_eq_getElem hj)
 obtain ⟨q1,q2⟩:=hR.put (X':=XQ G (w.setRow g (putL (i*n+j) v.cells.toList cur.toList).toArray) i j av) hr (j:=j) (l:=[r[j]]) (by simp;omega) (us:=v.cells.toList) (by simpa using c1') hone hh hvg (fun s x u ψ hs hu=>by
  have hs0:s < 1:=by simpa using (List.getElem?_eq_some_iff.1 hs).1
  obtain rfl:s=0:=by omega
  unfold XQ
  rw [if_pos ⟨rfl,Nat.add_zero j⟩]
  exact c2 0 av u rfl (by simpa using hu)) (fun q s ψ x u hz hne h=>by
  have hn:¬ (q=i∧s=j):=fun e=>hne ⟨e.1,Nat.le_of_eq e.2.symm,by rw [e.2];exact Nat.lt_succ_self j⟩
  unfold XQ
  rw [if_neg hn]
  exact OW.keep (fun _ _ h=>h) (hXO q s ψ x u hn h) fun z hz'=>setRow_other w _ z _ (hz z hz'))
 rw [hpu,set_same_ hr] at q2
 have hle:i*G.n k+j+v.cells.toList.length≤cur.size:=by rw [hn'];exact q1
 have hst:=run_storeCells_at P g (i*G.n k+j) T' v.cells.toList 0 cur w hh (by simpa using hle) hone
 rw [Nat.add_zero,← putL_eq _ _ _ (by simpa using hle)] at hst
 unfold Oper.wp execOp
 simp only [ho,ep,hv,Instr.storeAt,Instr.sureAddr,storeVar,Sem.run_bind,Sem.run_pure,Result.andThen_ok,run_sizeB hn,← hgb,hst]
 rw [if_neg (by rw [c1'];simp)]
 simp only [Sem.run_bind,Sem.run_pure,Result.andThen_ok,hst,Oper.upon]
 rw [hds]
 refine hN G _ _ (ok.write _ hk hφg ?_ hb)
 exact ⟨hn',hg,by rw [hn'];exact q2⟩
def stQV (P:Program)(σ:St):Op→Option (Nat×TypeId×Nat×List (List AV)×Nat×Nat×AV)
 | .store T x y =>
  match σ.ev x,σ.ev y with
  | some (.pt k i j),some av =>
   match sizeB P T,look k σ.M with
   | some 1,some (.rwn T' n rows)=>bif av.oneB then some (k,T',n,rows,i,j,av)else none
   | _,_=>none
  | _,_=>none
 | _=>none
def stRV (P:Program)(σ:St):Op→Option (Nat×TypeId×Nat×List (List AV)×Nat×Nat×Nat×Nat×AV)
 | .store T x y =>
  match σ.ev x,σ.ev y with
  | some (.pt k i j),some av =>
   match sizeB P T,look k σ.M with
   | some 1,some (.rwo T' n rows hi hj _)=>bif av.oneB then some (k,T',n,rows,i,j,hi,hj,av)else none
   | _,_=>none
  | _,_=>none
 | _=>none
theorem WV.ldQ {T T' n:Nat} {x:Operand} {k i j:Nat} {rows:List (List AV)} {r:List AV} {av:AV} (ho:o.op=.load T x) (hT:aggB P T=some false) (hx:σ.ev x=some (.pt k i j)) (hk:look k σ.M=some (.rwo T' n rows i j av)) (hr:rows[i]?=some r) (hj:j<r.length):WV P C o σ av :=
 WV.val (fun G a w ok=>(ok.ob k _ hk).2.1) fun G a w ok=>by
  obtain ⟨p,e,h1,h2,h3⟩:=(ok.evr hx).2.pt_of
  obtain rfl:=addr_eq h1 h2 h3
  obtain ⟨hn,hg,hR⟩:=(ok.ob k _ hk).2.2
  obtain ⟨u,hu,ψ,hX⟩:=hR.cell_at hg hr (List.getElem?_eq_getElem hj)
  unfold XQ at hX
  rw [if_pos ⟨rfl,rfl⟩] at hX
  rw [← hn] at hu
  exact ⟨u,by unfold execOp;simp [ho,e,run_load1 hT hu],hX⟩
def ldqV (P:Program)(σ:St):Op→Option (List (List AV)×Nat×Nat×Nat×Nat×AV)
 | .load T x =>
  match aggB P T,σ.ev x with
  | some false,some (.pt k i j) =>
   match look k σ.M with
   | some (.rwo _ _ rows hi hj av)=>some (rows,i,j,hi,hj,av)
   | _=>none
  | _,_=>none
 | _=>none
theorem ldqV_O {rows:List (List AV)} {i j hi hj:Nat} {r:List AV} {av:AV} (h:ldqV P σ o.op=some (rows,i,j,hi,hj,av))(e1:i=hi)(e2:j=hj)(hr:rows[i]?=some r)(hjr:j<r.length):WV P C o σ av:=by
 subst e1 e2
 unfold ldqV at h
 split at h
 ·rename_i T x ho
  split at h
  ·rename_i k i' j' hT hx
   split at h
   ·rename_i T' n rows' hi' hj' av' hk
    cases h
    exact WV.ldQ ho hT hx hk hr hjr
   ·cases h
  ·cases h
 ·cases h
def Lent (C:Cx)(σ:St)(av av':AV):Prop:=∀ G a w,Ok C σ G a w→∀ v,R G av v→RP (fun q=>w.cell? q) av' v
inductive Lents (C:Cx) (σ:St):List AV→List AV→Prop
 | nil:Lents C σ [] []
 | cons {x y:AV} {l m:List AV}:Lent C σ x y→Lents C σ l m→Lents C σ (x::l) (y::m)
theorem Lents.at_ {l m:List AV} (h:Lents C σ l m):l.length=m.length∧∀ (i:Nat)y,m[i]?=some y→∃ x,l[i]?=some x∧Lent C σ x y:=by
 induction h with
 | nil=>exact⟨rfl,fun i y hy=>by simp at hy⟩
 | cons h1 _ ih =>
  refine⟨by simp [ih.1],fun i y hy=>?_⟩
  cases i with
  | zero=>cases hy;exact⟨_,rfl,h1⟩
  | succ i=>exact ih.2 i y (by simpa using hy)
theorem Lent.rwn (dp:Nat) {k T n:Nat} {rows rows':List (List AV)} (hk:look k σ.M=some (.rwn T n rows)) (hs:∀ r∈rows,∀ av∈r,av.shal dp=true) (hr:(rows.map fun r=>r.map (AV.fz dp))=rows'):Lent C σ (.sl k) (.ls n rows'):=fun G a w ok v h=>by
 rw [h.sl_of.1,← hr]
 obtain ⟨_,_,hob⟩:=ok.ob k _ hk
 exact RowIs.fix (F':=fun q=>w.cell? q) (AV.fz dp) hob.2.2 (fun _ _=>rfl) fun i r j av u ψ hr hav hψ x=>OW.fix (fun p u x=>ok.fw p u x) dp x (fun _ _=>rfl) (hs r (List.mem_of_getElem? hr) av (List.mem_of_getElem? hav))
theorem WV.lendX (hB:Holds B gl C) {f:FuncId} {xs:Array Operand} {ts:Array TypeId} {args args':List AV} {res:Value} (ho:o.op=.call { callee:=.value (.func f),args:=xs,argTypes:=ts }) (hc:∀ vs w,(callFunc f vs).run P w=.ok (.enter f vs) w)
  (hx:σ.evs xs.toList=some args) (hl:Lents C σ args args') (hst:∀ w F F',View.le F F'→B w F→B w F') (h:Ctg B P f args' (.sc res)):WV P C o σ (.sc res):=by
 intro G a w ok N Q' hN
 obtain ⟨e1,e2⟩:=ok.evl hx
 obtain ⟨q1,q2⟩:=hl.at_
 have hF:G.F.le fun q=>w.cell? q:=fun p u x=>ok.fw p u x
 have hcalls:=h w (fun q=>w.cell? q) (xs.toList.map a.eval) (hst w _ _ hF (hB.1 w G.F ok.bel ok.f0)) (fun _ _ x=>x) ⟨by rw [e1,q1],fun i av u p q=>by
  obtain ⟨b,hb,hL⟩:=q2 i av p
  exact hL G a w ok u (e2 i b u hb q)⟩
 unfold Oper.wp execOp
 have ev:a.eval (.func f)=.func (.func f) #[] #[]:=rfl
 have e3:(#[]++xs.map a.eval++#[]:Array Value)=(xs.toList.map a.eval).toArray:=by apply Array.ext';simp
 simp only [ho,resolve,ev,Deferred.ofValue,invoke,Sem.run_bind,Sem.run_pure,Result.andThen_ok,hc,Oper.upon,e3]
 refine hcalls.mono fun e w1 ⟨v,F',he,hb,h1,h2,h3,h4⟩=>?_
 subst he
 have hv:=h4.sc_eq
 subst hv
 exact hN _ { G with F:=G.F } w1 (fun σ'' a'' ok''=>ok''.called hb (fun _ _ x=>x) (fun p u x=>by rw [hb.cell (cell_block (ok.fw p u x))];exact ok.fw p u x) (fun _ _ x=>.inl x)) (.pu _ _ (.sc _)) (RP.bd (F:=G.F) (.sc _) _)
end
end
section
open Go.RowKit
section
variable {P:Program} {C:Cx} {σ:St} {G:Gh} {a:Act} {w:World} {o:Oper} {d:Tmp} {ops:Array Oper} {rest:List Oper} {Q:Exit→St→Prop}
theorem WO.buildO {T e n q:Nat} {z:Value} {parts:Array (Nat×Operand)} {x0:Operand} {av0 y0:AV} {j0:Nat} (ho:o.op=.buildSlice T 1 parts) (hT:P.underlying T=some (.slice e)) (hn:sizeB P e=some n) (hz:(P.info? e).bind (·.zero)=some z)
  (hp:parts.toList=number 0 [x0]) (hb:Nat.ble (1*n) 16777216=true) (hds:o.dst=some d) (hd:Nat.blt d C.N=true) (hx:σ.ev x0=some av0) (hcB:av0.cellB=true) (hcl:av0.cells.length=n) (hc1:av0.cells.all AV.oneB=true) (hcj:av0.cells[j0]?=some y0) (hc0:∀ s x,s≠j0→av0.cells[s]?=some x→x.pu0=true) (hq:σ.nk=q) :
  WO P C o σ ((σ.new (.rwo e n [av0.cells] 0 j0 y0)).put d (.sl q)):=by
 intro G a w ok N Q' hN
 obtain ⟨hbd,hr⟩:=ok.evr hx
 obtain ⟨c1,c2⟩:=cells_of hr hcB
 have hv:(a.eval x0).cells.size=n:=c1.trans hcl
 have hrun:=run_buildS (P:=P) (T:=T) (e:=e) (n:=n) (m:=1) (vs:=[a.eval x0]) (parts:=parts.map fun (i,x)=>(i,a.eval x)) hT hn hz (by
  have:=number_map a.eval 0 [x0]
  rw [← hp] at this
  simpa using this) rfl (fun v hv'=>by obtain rfl:=List.mem_singleton.1 hv';exact hv) (Nat.le_of_ble_eq_true hb) w
 have hfl:(([a.eval x0]).map fun v=>v.cells.toList).flatten=(a.eval x0).cells.toList:=by simp
 have hown:=own_built w e n 1 (([a.eval x0]).map fun v=>v.cells.toList).flatten.toArray (by unfold maxLen;omega) (by
  rw [hfl,Array.toArray_toList,hv];omega)
 have honeR:∀ r∈[(a.eval x0).cells.toList],∀ u∈r,u.oneCell'=true:=fun r hr' u hu=>by
  obtain rfl:=List.mem_singleton.1 hr'
  obtain ⟨j,hj,rfl⟩:=List.getElem_of_mem hu
  have hj2:j<av0.cells.length:=by rw [← c1];simpa using hj
  exact oneB_of (c2 j _ _ (List.getElem?_eq_getElem hj2) (by simp at hj;simp [hj])) (List.all_eq_true.1 hc1 _ (List.getElem_mem hj2))
 have hsl:(.slice (some ⟨w.heap.size,0,none⟩) 1 1:Value).ownBlock=some w.heap.size:=rfl
 have hy:Bd σ.nk y0:=cells_bd hbd j0 y0 hcj
 have ok':=ok.newObj (w':=w.alloc (.cells (([a.eval x0]).map fun v=>v.cells.toList).flatten.toArray e)) (S:=fun _=>False) (b:=w.heap.size) (n:=n) (h:=.slice (some ⟨w.heap.size,0,none⟩) 1 1) (φ:=fun x=>x=w.heap.size) (ob:=.rwo e n [av0.cells] 0 j0 y0)
  (Kept.below ((Below.refl _ _).alloc (Nat.le_refl _) _)) (fun _ h=>h.elim) (fun _ _ _ _ _ h=>h) (fun _ _ _ h=>h)
  ⟨with_n,(fun g hg=>by rw [with_h,hsl] at hg;rw [with_b];exact (Option.some.inj hg).symm),by
   rw [with_h,with_f]
   refine ⟨fun r hr'=>by obtain rfl:=List.mem_singleton.1 hr';exact hcl,[(a.eval x0).cells.toList],fun _ _ _=>False,?_,rfl,honeR,fun g hg=>by rw [hsl] at hg;exact (Option.some.inj hg).symm,
    fun _ _ _ h=>h.elim,fun _ _ _ _ _ h=>h.elim,fun i r r' h1 h2=>?_,fun i r r' j av u h1 h2 h3 h4=>?_⟩
   ·exact own_weaken (by simpa using hown) (Nat.zero_le _)
   ·cases i with
    | zero=>cases h1;cases h2;simpa using c1
    | succ i=>simp at h1
   ·cases i with
    | succ i=>simp at h1
    | zero =>
     cases h1;cases h2
     have hR:=c2 j av u h3 (by simpa using h4)
     unfold XQ
     by_cases e:j=j0
     ·subst e
      rw [if_pos ⟨rfl,rfl⟩]
      rw [hcj] at h3
      cases h3
      exact hR.mono (G.with_le σ.nk _ _ _ _) hy
     ·rw [if_neg (fun h=>e h.2)]
      exact .pu _ _ _ (show RP G.F av u from (pu0_bd (hc0 j av e h3) 0).rp hR)⟩ (hy.mono (Nat.le_succ _)) (fun x hx=>by
   obtain rfl:x=w.heap.size:=hx
   refine ⟨.inl ok.bel.size,by simp,fun k o h1 h2=>?_,fun p u h1 h2=>?_⟩
   ·have:=(ok.my k o _ h1 h2).2;omega
   ·have:=cell_block (ok.fw p u h1);omega)
 unfold Oper.wp execOp
 simp only [ho,Sem.run_bind,hrun,Result.andThen_ok,Sem.run_pure,Oper.upon]
 rw [hds]
 subst hq
 exact hN _ _ _ (ok'.set (d:=some d) (av:=.sl σ.nk) (v:=.slice (some ⟨w.heap.size,0,none⟩) 1 1) (with_sl rfl) (.sl _ (Nat.lt_succ_self _)) fun x hx=>by cases hx;exact of_blt hd)
structure BdD where
 e:TypeId
 n:Nat
 cells:List AV
def bdoV (P:Program) (σ:St):Op→Option BdD
 | .buildSlice T 1 ⟨[(0,x)]⟩ =>
  match P.underlying T,σ.ev x with
  | some (.slice e),some av =>
   match sizeB P e,(P.info? e).bind (·.zero) with
   | some n,some _=>bif av.cellB && Nat.beq av.cells.length n && av.cells.all AV.oneB && Nat.ble (1*n) 16777216 then some ⟨e,n,av.cells⟩ else none
   | _,_=>none
  | _,_=>none
 | _=>none
def pu0But (j:Nat):Nat→List AV→Bool
 | _,[]=>true
 | s,x::r=>(Nat.beq s j|| x.pu0) && pu0But j (s+1) r
theorem pu0But_at {j:Nat}:∀ {l:List AV} {s:Nat},pu0But j s l=true→∀ i x,s+i≠j→l[i]?=some x→x.pu0=true
 | [],s,_,i,x,_,h=>by simp at h
 | y::r,s,hp,i,x,hi,h=>by
  simp only [pu0But,Bool.and_eq_true,Bool.or_eq_true] at hp
  cases i with
  | zero =>
   cases h
   rcases hp.1 with e|e
   ·exact absurd (Nat.eq_of_beq_eq_true e) hi
   ·exact e
  | succ i=>exact pu0But_at hp.2 i x (by omega) (by simpa using h)
theorem WL.bdO {x:BdD} {t:List (Nat×AV)} {M:List (Nat×AO)} {nk:Nat} (j:Nat) {y:AV} (hd:dstB C.N o=some d) (h:bdoV P ⟨t,M,nk⟩ o.op=some x) (hj:x.cells[j]?=some y) (hp:pu0But j 0 x.cells=true)
  (k:WL P C ops rest ⟨(d,.sl nk)::t,(nk,.rwo x.e x.n [x.cells] 0 j y)::M,nk+1⟩ Q):WL P C ops (o::rest) ⟨t,M,nk⟩ Q:=by
 obtain ⟨hg,hds,hdb⟩:=dstB_of hd
 refine WL.op hg ?_ k
 unfold bdoV at h
 split at h
 ·rename_i T x0 ho
  split at h
  ·rename_i e av hT hx
   split at h
   ·rename_i n z hn hz
    cases hb:av.cellB && Nat.beq av.cells.length n && av.cells.all AV.oneB && Nat.ble (1*n) 16777216 with
    | false=>rw [hb] at h;cases h
    | true =>
     rw [hb] at h
     cases h
     simp only [Bool.and_eq_true] at hb
     obtain ⟨⟨⟨b1,b2⟩,b3⟩,b4⟩:=hb
     exact WO.buildO (σ:=⟨t,M,nk⟩) ho hT hn hz rfl b4 hds hdb hx b1 (Nat.eq_of_beq_eq_true b2) b3 hj (fun s x hs hx=>pu0But_at hp s x (by omega) hx) rfl
   ·cases h
  ·cases h
 ·cases h
structure ApmD where
 T:TypeId
 n:Nat
 k:Nat
 q:Nat
 a:List (List AV)
 b:List (List AV)
def apmV (P:Program) (σ:St):Op→Option ApmD
 | .call { callee:=.builtin .append,args:=⟨[x,y]⟩,argTypes:=⟨[T,T']⟩ } =>
  match P.underlying T,σ.ev x,σ.ev y with
  | some (.slice e),some (.sl k),some (.sl q) =>
   match P.info? e,look k σ.M,look q σ.M with
   | some i,some (.rwn e' n rows),some (.rwn _ n' rows2) =>
    match i.zero with
    | some z=>bif Nat.beq T T' && Nat.beq e e' && Nat.beq n n' && Nat.beq i.size n && Nat.beq z.cells.size n && Nat.blt 0 n && Nat.ble i.bytes 100000 && !Nat.beq k q then some ⟨e,n,k,q,rows,rows2⟩else none
    | _=>none
   | _,_,_=>none
  | _,_,_=>none
 | _=>none
theorem WL.apM {x:ApmD} {t:List (Nat×AV)} {M M1 M':List (Nat×AO)} {nk:Nat} (hd:dstB C.N o=some d) (h:apmV P ⟨t,M,nk⟩ o.op=some x) (hM:remS x.k M=some M1) (hM2:remS x.q M1=some M') (hl:x.a.length+x.b.length≤1000000000)
  (k:WL P C ops rest ⟨(d,.sl nk)::t,(nk,.rwn x.T x.n (x.a++x.b))::M',nk+1⟩ Q):WL P C ops (o::rest) ⟨t,M,nk⟩ Q:=by
 rw [remS_eq hM2,remS_eq hM] at k
 obtain ⟨hg,hds,hdb⟩:=dstB_of hd
 refine WL.op hg ?_ k
 unfold apmV at h
 split at h
 ·rename_i x0 y0 T T' ho
  split at h
  ·rename_i e k' q' hT hx hy
   split at h
   ·rename_i i e' n rows e2 n' rows2 hi hk hq
    split at h
    ·rename_i z hz
     cases hb:Nat.beq T T' && Nat.beq e e' && Nat.beq n n' && Nat.beq i.size n && Nat.beq z.cells.size n && Nat.blt 0 n && Nat.ble i.bytes 100000 && !Nat.beq k' q' with
     | false=>rw [hb] at h;cases h
     | true =>
      rw [hb] at h
      simp only [Bool.and_eq_true,Bool.not_eq_true'] at hb
      cases h
      obtain ⟨⟨⟨⟨⟨⟨⟨b1,b2⟩,b3⟩,b4⟩,b5⟩,b6⟩,b7⟩,b8⟩:=hb
      obtain rfl:=Nat.eq_of_beq_eq_true b1
      obtain rfl:=Nat.eq_of_beq_eq_true b2
      obtain rfl:=Nat.eq_of_beq_eq_true b3
      exact WO.appendM (σ:=⟨t,M,nk⟩) ho hT hi hz (Nat.eq_of_beq_eq_true b4) rfl (Nat.eq_of_beq_eq_true b5) b6 hds hdb hx hk hy hq b8 rfl hl b7 rfl
    ·cases h
   ·cases h
  ·cases h
 ·cases h
end
end
section
open Go.RowKit
section
variable {P:Program} {C:Cx} {σ:St}
def ldaV (P:Program)(σ:St):Op→Option (TypeId×List (List AV)×Nat×Nat)
 | .load T x =>
  match σ.ev x with
  | some (.pt k i j) =>
   match look k σ.M with
   | some (.row _ _ rows)=>some (T,rows,i,j)
   | some (.rwn _ _ rows)=>some (T,rows,i,j)
   | _=>none
  | _=>none
 | _=>none
theorem ldaV_of {o:Oper} {T:TypeId} {rows:List (List AV)} {i j:Nat} {r:List AV} {av:AV} (h:ldaV P σ o.op=some (T,rows,i,j))(hi:rows[i]?=some r)(ht:takeO P T (r.drop j)=some av):WV P C o σ av:=by
 unfold ldaV at h
 split at h
 ·rename_i T' x ho
  split at h
  ·rename_i k i' j' hx
   split at h
   ·rename_i T2 n rows' hk
    cases h
    have hf:(AO.row T2 n rows).from_ i j=some (r.drop j):=by simp [AO.from_,hi]
    exact loadV_of ho hx (by simp only [loadV,hk,hf];exact ht)
   ·rename_i T2 n rows' hk
    cases h
    have hf:(AO.rwn T2 n rows).from_ i j=some (r.drop j):=by simp [AO.from_,hi]
    exact loadV_of ho hx (by simp only [loadV,hk,hf];exact ht)
   ·cases h
  ·cases h
 ·cases h
variable {ops:Array Oper} {o:Oper} {rest:List Oper} {d:Tmp} {Q:Exit→St→Prop}
theorem WL.lda {T:TypeId} {rows:List (List AV)} {i j:Nat} {r:List AV} {av:AV} (hd:dstB C.N o=some d)(h:ldaV P σ o.op=some (T,rows,i,j))(hi:rows[i]?=some r)(ht:takeO P T (r.drop j)=some av)(k:WL P C ops rest (σ.put d av) Q):WL P C ops (o::rest) σ Q:=WL.vl hd (ldaV_of h hi ht) k
theorem DK.lda {T:TypeId} {rows:List (List AV)} {i j:Nat} {r:List AV} {av:AV} (hd:dstD C.N ops σ o=some d)(h:ldaV P (σ.only (o.looksAt ops)) o.op=some (T,rows,i,j))(hi:rows[i]?=some r)(ht:takeO P T (r.drop j)=some av)(k:DK P C ops rest (σ.put d av) Q):DK P C ops (o::rest) σ Q:=DK.vl hd (ldaV_of h hi ht) k
end
end
section
open Go.RowKit
theorem wrapU_of {n:Int} (h0:0≤n)(h1:n≤1000000):IntKind.u64.wrap n=n:=by
 have e:n % 18446744073709551616=n:=Int.emod_eq_of_lt h0 (by omega)
 simp [IntKind.wrap,IntKind.bits,IntKind.signed,e]
theorem wrapI_of {n:Int} (h0:0≤n) (h1:n≤1000000):IntKind.i64.wrap n=n:=I64.wrap ⟨by omega,by omega⟩
section
variable {P:Program} {C:Cx} {σ:St} {o:Oper} {d:Tmp} {ops:Array Oper} {rest:List Oper} {Q:Exit→St→Prop}
def shrV (σ:St):Op→Option Int
 | .binOp .shr _ x y _ =>
  match σ.ev x,σ.ev y with
  | some (.sc (.int .u64 n)),some (.sc (.int .u64 1))=>some n
  | _,_=>none
 | _=>none
theorem shrV_of {n m:Int} (h:shrV σ o.op=some n)(hm:n.fdiv 2=m):WV P C o σ (.sc (.int .u64 m)):=by
 unfold shrV at h
 split at h
 ·rename_i T x y Ty ho
  split at h
  ·rename_i n' hx hy
   cases h
   subst hm
   exact WV.sc fun G a w ok=>by unfold execOp;simp [ho,ok.evs hx,ok.evs hy,eqGuard,binOp,Op.shift,IntKind.bits]
  ·cases h
 ·cases h
theorem WL.shr {n m:Int} (hd:dstB C.N o=some d)(h:shrV σ o.op=some n)(hm:n.fdiv 2=m)(k:WL P C ops rest (σ.put d (.sc (.int .u64 m))) Q):WL P C ops (o::rest) σ Q:=WL.vl hd (shrV_of h hm) k
end
end
section
open Go.RowKit
theorem pcCopy_FS (p:Pce) (hO:PcOk p):Ctr Tryz.prog 17 [ePce p] (ePce p):=by
 refine Ctr.intro Tryz.func17 rfl Tryz.ntmps17 (Nat.le_of_ble_eq_true rfl) (bd_all rfl) fun w0 F0=>?_
 have hn3:=hO.n3
 repeat refine W.go rfl ?_
 refine (?_:WL _ _ _ _ _ _)
 refine WL.vl rfl (WV.call rfl (callF Tryz.func53 rfl rfl) rfl rfl (insCopy_FS p.cs p.st hO.n1 hO.n2)) ?_
 repeat (first|refine W.go rfl ?_|refine WL.ev rfl ?_)
 refine (?_:W _ _ _ _ _)
 refine W.tr (Tr.nilBox (k:=2) (j:=2) 36 6 rfl rfl rfl rfl) ?_
 refine W.loop (fun k:Nat=>k≤p.evs.length) (fun k=>⟨[(1,.pt 0 0 0),(2,.pt 1 0 0),(3,.pt 2 0 0),(4,.sc (.int .i64 k))],[(0,.box 28 [.ls 3 (p.cs.map eCrs),.ls 1 (p.st.map eInt),.ls 6 (p.evs.map eEv)]),(1,.box 28 [.sc (.slice none 0 0),.sc (.slice none 0 0),.sc (.slice none 0 0)]),(2,.box 28 [.ls 3 (p.cs.map eCrs),.ls 1 (p.st.map eInt),.sl 3]),(3,.row 36 6 ((p.evs.take k).map eEv))],4⟩) (fun k=>p.evs.length - k) 0 (by omega) (zqt id) fun k hk=>?_
 repeat (first|refine W.go rfl ?_|refine WL.ev rfl ?_|refine WL.len rfl rfl zql ?_)
 refine (?_:W _ _ _ _ _)
 (refine W.cond rfl (fun hif=>?_) (fun hif=>?_)<;>(try simp only [decide_eq_true_eq,decide_eq_false_iff_not,Int.not_lt,Int.not_le,Bool.not_eq_true',Bool.not_eq_false'] at hif))
 ·have hk2:k < p.evs.length:=by omega
  have h20:=hO.n4 k hk2
  repeat (first|refine W.go rfl ?_|refine WL.ev rfl ?_|refine WL.idx rfl rfl (by omega) zqm ?_|refine WL.app rfl rfl rfl (by first|omega|(simp;done)|(simp;omega)) ?_)
  refine (?_:WL _ _ _ _ _ _)
  refine WL.tr (Tr.freeze 6 rfl) ?_
  repeat (first|refine W.go rfl ?_|refine WL.ev rfl ?_|refine WL.ar rfl rfl (by unfold I64;omega) ?_|refine WL.app rfl rfl rfl (by first|omega|(simp;done)|(simp;omega)) ?_)
  refine ⟨k+1,by omega,by omega,zqu (fun q=>bif Nat.beq q 3 then 8 else q) (by repeat (first|exact trivial|refine ⟨⟨?_,?_,?_⟩,?_⟩|exact congrArg (fun r=>some (AO.row _ _ r)) (take_map_succ hk2)|rfl)) rfl⟩
 ·have he:k=p.evs.length:=by omega
  subst he
  repeat refine W.go rfl ?_
  refine (?_:W _ _ _ _ _)
  refine W.tr (Tr.freeze 3 rfl) ?_
  refine W.ret (fin_cell rfl rfl rfl rfl rfl rfl ?_ rfl)
  show AV.ag [_,_,.ls 6 ((p.evs.take p.evs.length).map eEv)]=ePce p
  rw [List.take_length]
  rfl
end
section
open Go.RowKit
theorem big_any (M:PM) (p:Pce) (w:World) (hP:PcAt w w.heap.size M p):Calls Tryz.prog 49 #[pcValue M p] w (Ret (.bool (bigB p)) w):=by
 obtain ⟨A1,A2,A3,c1,c2,c3⟩:=M
 obtain ⟨cs,st,evs⟩:=p
 unfold pcValue
 simp only at *
 have HP:=Lib.hid hP.2.1
 obtain ⟨n1,hn1⟩:∃ n,cs.length=n:=⟨_,rfl⟩
 obtain ⟨n2,hn2⟩:∃ n,st.length=n:=⟨_,rfl⟩
 obtain ⟨n3,hn3⟩:∃ n,evs.length=n:=⟨_,rfl⟩
 have HN3:=Lib.hid hn3
 have hB:bigB ⟨cs,st,evs⟩=(decide (64 < n1)|| (decide (64 < n2)|| (decide (420 < n3)|| evs.any fun e=>decide (20 < e.stops.length)))):=by unfold bigB;rw [hn1,hn2,hn3]
 rw [hB,hn1,hn2,hn3]
 clear hB hn1 hn2 hn3 hP
 by_cases b1:64 < n1
 ·have e:(decide (64 < n1)|| (decide (64 < n2)|| (decide (420 < n3)|| evs.any fun e=>decide (20 < e.stops.length))))=true:=by simp [b1]
  rw [e]
  clear e
  go_enter Tryz.func49,Tryz.ntmps49
  go_wp2
  go_ret
  exact Ret.mk' rfl zqb
 ·by_cases b2:64 < n2
  ·have e:(decide (64 < n1)|| (decide (64 < n2)|| (decide (420 < n3)|| evs.any fun e=>decide (20 < e.stops.length))))=true:=by simp [b2]
   rw [e]
   clear e
   go_enter Tryz.func49,Tryz.ntmps49
   go_wp2
   go_ret
   exact Ret.mk' rfl zqb
  ·by_cases b3:420 < n3
   ·have e:(decide (64 < n1)|| (decide (64 < n2)|| (decide (420 < n3)|| evs.any fun e=>decide (20 < e.stops.length))))=true:=by simp [b3]
    rw [e]
    clear e
    go_enter Tryz.func49,Tryz.ntmps49
    go_wp2
    go_ret
    exact Ret.mk' rfl zqb
   ·have e:(decide (64 < n1)|| (decide (64 < n2)|| (decide (420 < n3)|| evs.any fun e=>decide (20 < e.stops.length))))=evs.any fun e=>decide (20 < e.stops.length):=by simp [b1,b2,b3]
    rw [e]
    clear e
    obtain ⟨V,hV⟩:∃ V,(evs.any fun e=>decide (20 < e.stops.length))=V:=⟨_,rfl⟩
    rw [hV]
    have HV:=Lib.hid hV
    clear hV
    go_enter Tryz.func49,Tryz.ntmps49
    go_wp2
    go_loop [3] (fun i=>∃ k:Nat,k≤n3∧i=.int .i64 k∧V=(evs.drop k).any fun e=>decide (20 < e.stops.length)) (fun i=>n3 - (intOf i).toNat)
    case atStart=>exact ⟨0,Nat.zero_le _,rfl,HV.out.symm⟩
    case round =>
     obtain ⟨k,hk,rfl,hs⟩:=hrel
     have HS:=Lib.hid hs
     clear hs
     by_cases hlt:k < n3
     ·have hk2:k < evs.length:=by have:=HN3.out;omega
      obtain ⟨ad,S,c,hA,hb,_,_,_,_,_,hc,_⟩:=HP.out.ev hk2
      subst hA
      have hs2:=HS.out.trans (any_at hk2)
      generalize evs[k]=e at hc hs2
      have hc2:∀ o:Obj,(w.alloc o).cell? ⟨(ad.add (k*6)).block,(ad.add (k*6)).off+5,none⟩=some (.slice S e.stops.length c):=fun o=>by
       rw [World.cell?_alloc_lt _ _ _ (by rw [block_of_add];omega),hc]
      clear hc
      generalize e.stops.length=n at *
      by_cases hb1:20 < n
      ·have HE:=Lib.hid (hs2.trans (show _=true by simp [hb1]))
       clear hs2
       go_wp2
       go_ret
       exact Ret.mk' (by rw [HE.out];rfl) zqb
      ·have HS3:=Lib.hid (hs2.trans (show _=(evs.drop (k+1)).any fun e=>decide (20 < e.stops.length) by simp [hb1]))
       clear hs2
       go_wp2
       go_round
       case rel=>exact ⟨k+1,by omega,by go_num,HS3.out⟩
       case measure=>simp [intOf];omega
     ·have HE:=Lib.hid (HS.out.trans (show ((evs.drop k).any fun e=>decide (20 < e.stops.length))=false from by rw [List.drop_eq_nil_of_le (by have:=HN3.out;omega)];rfl))
      go_wp2
      go_ret
      exact Ret.mk' (by rw [HE.out];rfl) zqb
end
end Go.Proofs.YtgelfflighgajaaGreatDoor
