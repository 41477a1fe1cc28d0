/- The closed facts of BookTransposed' statement, each in a declaration of its own (the kernel frees what it holds at a declaration's end). -/
import Derived.Lib.SmallJoins
import Derived.Test.YtgelfflighgajaaGreatDoorSfPPq
import Derived.Test.YtgelfflighgajaaGreatDoorRows
import Derived.SevenTiedAt
set_option maxHeartbeats 8000000
set_option maxRecDepth 100000
set_option linter.unusedVariables false
set_option linter.unusedSimpArgs false
namespace Go.Proofs.YtgelfflighgajaaGreatDoor
open Go.RowKit Go.WideShapes Go.ChangeShapes Go.Joins Go.Deep
section
variable {H:Type} {enc:TypeId×Value→H} {P:Program} {w:World} {base:Nat} {spare:Nat→Bool} {held:Bool}
theorem post_of_below {f:Func} {s:ChangeSpec} {apart fresh handsOn again:Bool} {W W':World} {args:Array Value} {v:Value} {ds gs:List (DataW H)} {before pa pv:List MemPlace}
  (hW:DataW.Whole enc P f.params.toList s.vars apart W args.toList ds gs before)
  (hres:∀ (b:Nat) (sp:Nat→Bool) (hd:Bool),DataW.TrodAll enc P W' b sp hd f.resultTypes.toList (v.resultList f.resultTypes.size) (s.fn H (ds++gs)).results [])
  (hargs:∀ sp:Nat→Bool,(∀ p∈before,sp p.block=true)→DataW.TrodAll enc P W' 0 sp true f.params.toList args.toList (s.fn H (ds++gs)).args pa)
  (hvars:∀ sp:Nat→Bool,(∀ p∈before,sp p.block=true)→DataW.TrodVars enc P W' sp s.vars (s.fn H (ds++gs)).vars pv)
  (hps:before=pa++pv) (hb:Below W.heap.size W W')
  (hok:∀ (j:Nat) (t:TypeId) (r:Value),f.resultTypes[j]?=some t→(v.resultList f.resultTypes.size)[j]?=some r→Value.okWide P W' .any 0 t r) :
  s.post enc P f apart fresh handsOn again W args v W':=by
 have hlt:∀ p∈before,p.block<W.heap.size:=fun p hp=>hW.lt p hp
 have hold:∀ p∈before,(fun b=>decide (b<W.heap.size)) p.block=true:=fun p hp=>by simpa using hlt p hp
 refine ⟨ds,gs,before,[],pa,pv,hW,hres _ _ _,hargs _ hold,hvars _ hold,World.keptBut_mono (fun p hp=>⟨hp,?_⟩) (hb.frame (·∈before)),fun _=>?_⟩
 ·rw [hps,List.mem_append] at hp
  exact Or.inr hp
 ·obtain ⟨_,_,_,_,_,hz,hn⟩:=hW
  refine ⟨hok,_,_,([]++pa)++pv,⟨[]++pa,pv,trodAll_append (hargs _ (fun _ _=>rfl)) (hres _ _ _),hvars _ (fun _ _=>rfl),rfl,?_,?_⟩,?_⟩
  ·intro b off hp
   have hin:MemPlace.cell b off∈before:=by rw [hps];simpa using hp
   rw [hb.frozen (hlt _ hin)]
   exact hz b off hin
  ·intro ha
   have:=hn ha
   rw [hps] at this
   simpa using this
  ·intro p hp _
   rw [hps]
   simpa using hp
end
end Go.Proofs.YtgelfflighgajaaGreatDoor
namespace Go.Proofs.YtgelfflighgajaaGreatDoor
open Go.RowKit
def lendB (M:List (Nat×AO)):AV→AV
 | .sl k=>match look k M with
  | some (.row _ n rows)=>.ls n rows
  | _=>.sl k
 | av=>av
section
variable {B:World→View→Prop} {gl:Nat} {P:Program} {C:Cx} {ops:Array Oper} {rest:List Oper} {σ σ':St} {G G':Gh} {a:Act} {w w':World} {o:Oper} {d:Tmp} {Q:Exit→St→Prop}
theorem lend_rp (ok:Ok C σ G a w) {av:AV} {v:Value} (h:R G av v) (hp:(lendB σ.M av).pu2=true):RP (fun q=>w.cell? q) (lendB σ.M av) v:=by
 have hF:G.F.le fun q=>w.cell? q:=fun p u x=>ok.fw p u x
 have std:lendB σ.M av=av→RP (fun q=>w.cell? q) (lendB σ.M av) v:=fun e=>by
  rw [e] at hp ⊢
  exact RP.mono hF ((pu2_bd hp 0).rp h)
 cases av with
 | sl k =>
  cases hk:look k σ.M with
  | none=>exact std (by simp only [lendB,hk])
  | some ob =>
   cases ob with
   | row T n rows =>
    have e:lendB σ.M (.sl k)=.ls n rows:=by simp only [lendB,hk]
    rw [e,h.sl_of.1]
    obtain ⟨_,_,hob⟩:=ok.ob k _ hk
    have:=RowIs.fix (F':=fun q=>w.cell? q) id hob.2.2 (fun _ _=>rfl) fun i r j av u ψ _ _ _ x=>RP.mono hF x
    simpa using this
   | _=>exact std (by simp only [lendB,hk])
 | _=>exact std rfl
theorem truST:∀ w F F',View.le F F'→truB w F→truB w F':=fun _ _ _ _ h=>h
def sixV (P:Program) (σ:St):Op→Option (List UInt8×Int)
 | .index T x y =>
  match P.underlying T,σ.ev x,σ.ev y with
  | some .string,some (.sc (.string ⟨⟨s⟩⟩)),some (.sc (.int _ i))=>some (s,i)
  | _,_,_=>none
 | _=>none
theorem run_six {T:TypeId} {s:List UInt8} {k:IntKind} {i:Int} (hT:P.underlying T=some .string) (h0:0≤i) (h1:i<s.length) :
  (Instr.index T (.string (bs s)) (.int k i)).run P w=.ok (.int .u8 ((s.getD i.toNat 0).toNat:Int)) w:=by
 have hl:i.toNat<s.length:=by omega
 have e:(bs s)[i.toNat]?=some (s.getD i.toNat 0):=by
  rw [List.getD_eq_getElem?_getD,List.getElem?_eq_getElem hl]
  have hs:i.toNat<(bs s).size:=by rw [bs_size];exact hl
  rw [getElem?_pos (bs s) i.toNat hs]
  rfl
 simp [Instr.index,asIntOf,run_underlying hT,h0,e]
theorem sixV_of {s:List UInt8} {i:Int} (h:sixV P σ o.op=some (s,i)) (hb:0≤i∧i<s.length):WV P C o σ (.sc (.int .u8 ((s.getD i.toNat 0).toNat:Int))):=by
 unfold sixV at h
 split at h
 ·rename_i T x y ho
  split at h
  ·rename_i s' k i' hT hx hy
   cases h
   refine WV.sc fun G a w ok=>?_
   unfold execOp
   simp only [ho,ok.evs hx,ok.evs hy,Sem.run_bind]
   have h6:(Instr.index T (.string ⟨⟨s⟩⟩) (.int k i)).run P w=.ok (.int .u8 ((s.getD i.toNat 0).toNat:Int)) w:=run_six hT hb.1 hb.2
   rw [h6];rfl
  ·cases h
 ·cases h
theorem WL.six {s:List UInt8} {i:Int} (hd:dstB C.N o=some d)(h:sixV P σ o.op=some (s,i))(hb:0≤i∧i<s.length)(k:WL P C ops rest (σ.put d (.sc (.int .u8 ((s.getD i.toNat 0).toNat:Int)))) Q):WL P C ops (o::rest) σ Q :=
 WL.vl hd (sixV_of h hb) k
end
end Go.Proofs.YtgelfflighgajaaGreatDoor
namespace Go.Proofs.YtgelfflighgajaaGreatDoor
open Go.RowKit
def onB:AV→Bool
 | .sc v=>v.oneCell'
 | .ls _ _=>true
 | _=>false
def lendP (M:List (Nat×AO)):AV→AV
 | .pt k 0 0=>match look k M with
  | some (.box _ cells)=>bif cells.all onB then .pr cells else .pt k 0 0
  | _=>.pt k 0 0
 | av=>lendB M av
def lendC (M:List (Nat×AO)):AV→AV
 | .fn f l=>.fn f (l.map (lendP M))
 | av=>lendP M av
section
variable {B:World→View→Prop} {gl:Nat} {P:Program} {C:Cx} {ops:Array Oper} {rest:List Oper} {σ σ':St} {G G':Gh} {a:Act} {w w':World} {o:Oper} {d:Tmp} {Q:Exit→St→Prop}
theorem onB_of {av:AV} {u:Value} (h:onB av=true)(r:R G av u):u.oneCell'=true∧RP G.F av u∧av.own=false:=by
 cases av with
 | sc v =>
  obtain rfl:=r.sc_eq
  exact⟨h,.sc _,rfl⟩
 | ls n rows =>
  have h2:RP G.F (.ls n rows) u:=(pu2_bd (av:=.ls n rows) rfl 0).rp r
  obtain⟨A,cap,ad,u',rfl,_⟩:=h2.ls_of
  exact⟨rfl,h2,rfl⟩
 | _=>cases h
theorem lendP_rp (ok:Ok C σ G a w) {av:AV} {v:Value} (h:R G av v) (hp:(lendP σ.M av).pu2=true):RP (fun q=>w.cell? q) (lendP σ.M av) v:=by
 have hF:G.F.le fun q=>w.cell? q:=fun p u x=>ok.fw p u x
 cases av with
 | pt k i j =>
  cases i with
  | succ i=>exact lend_rp ok h hp
  | zero =>
   cases j with
   | succ j=>exact lend_rp ok h hp
   | zero =>
    cases hk:look k σ.M with
    | none =>
     have e:lendP σ.M (.pt k 0 0)=.pt k 0 0:=by simp only [lendP,hk]
     rw [e] at hp;cases hp
    | some ob =>
     cases ob with
     | box T cells =>
      have e:lendP σ.M (.pt k 0 0)=bif cells.all onB then .pr cells else .pt k 0 0:=by simp only [lendP,hk]
      rw [e] at hp ⊢
      cases hc:cells.all onB with
      | false=>rw [hc] at hp;cases hp
      | true =>
       obtain ⟨p,rfl,h1,h2,h3⟩:=h.pt_of
       have hcell:∀ (j:Nat) av,cells[j]?=some av→∃ u,w.cell? (p.add j)=some u∧u.oneCell'=true∧RP G.F av u:=fun j av hj=>by
        have hb:=List.all_eq_true.1 hc av (List.mem_of_getElem? hj)
        have ho:av.own=false:=by cases av<;>first|rfl|cases hb
        obtain ⟨u,hu,hr,_⟩:=ok.cell (i:=0) (j:=0) (l:=cells) hk rfl hj h1 h2 h3 ho
        obtain ⟨q1,q2,_⟩:=onB_of hb hr
        exact ⟨u,hu,q1,q2⟩
       show RP _ (.pr cells) _
       refine .pr cells p (fun j=>(w.cell? (p.add j)).getD undef) (fun j av hj=>?_) (fun j av hj=>?_)
       ·obtain ⟨u,hu,q1,q2⟩:=hcell j av hj
        rw [hu];exact ⟨rfl,q1⟩
       ·obtain ⟨u,hu,q1,q2⟩:=hcell j av hj
        rw [hu];exact q2.mono hF
     | _ =>
      have e:lendP σ.M (.pt k 0 0)=.pt k 0 0:=by simp only [lendP,hk]
      rw [e] at hp;cases hp
 | _=>exact lend_rp ok h hp
theorem lendC_rp (ok:Ok C σ G a w) {av:AV} {v:Value} (h:R G av v) (hp:(lendC σ.M av).pu2=true):RP (fun q=>w.cell? q) (lendC σ.M av) v:=by
 cases av with
 | fn f l =>
  obtain ⟨cs,rfl,h1,h2⟩:=h.fn_of
  show RP _ (.fn f (l.map (lendP σ.M))) _
  refine .fn f _ cs (by rw [h1,List.length_map]) fun i av u a b=>?_
  rw [List.getElem?_map] at a
  cases hi:l[i]? with
  | none=>simp [hi] at a
  | some av0 =>
   simp only [hi,Option.map_some,Option.some.injEq] at a
   subst a
   refine lendP_rp ok (h2 i av0 u hi b) ?_
   have hall:(l.map (lendP σ.M)).all AV.pu00=true:=hp
   have h3:(lendP σ.M av0).pu00=true:=List.all_eq_true.1 hall _ (List.mem_of_getElem? (by rw [List.getElem?_map,hi];rfl))
   generalize lendP σ.M av0=q at h3 ⊢
   cases q<;>first|rfl|cases h3
 | _=>exact lendP_rp ok h hp
theorem WV.lendV (hB:Holds B gl C) {f:FuncId} {y:Operand} {fv:AV} {xs:Array Operand} {ts:Array TypeId} {args0 caps args args':List AV} {res:Value} (ho:o.op=.call { callee:=.value y,args:=xs,argTypes:=ts }) (hc:∀ vs w,(callFunc f vs).run P w=.ok (.enter f vs) w)
  (hy:σ.ev y=some fv) (hf:fnOf fv=some (f,caps)) (hx:σ.evs xs.toList=some args0) (hcat:args0++caps=args) (hl:args.map (lendC σ.M)=args') (hp:args'.all AV.pu2=true) (hst:∀ w F F',View.le F F'→B w F→B w F') (h:Ctg B P f args' (.sc res)):WV P C o σ (.sc res):=by
 intro G a w ok N Q' hN
 obtain ⟨cs,ey,h1,h2⟩:=fnOf_of hf (ok.evr hy).2
 obtain ⟨e1,e2⟩:=ok.evl2 hx h1 h2 hcat
 subst hl
 have hF:G.F.le fun q=>w.cell? q:=fun p u x=>ok.fw p u x
 refine call_wp ho hc ey (h w (fun q=>w.cell? q) _ (hst w _ _ hF (hB.1 w G.F ok.bel ok.f0)) (fun _ _ x=>x) ⟨by rw [e1,List.length_map],fun i av u p q=>?_⟩) fun e w1 ⟨v,F',he,hb,h1,h2,h3,h4⟩=>?_
 ·rw [List.getElem?_map] at p
  cases hi:args[i]? with
  | none=>simp [hi] at p
  | some av0 =>
   simp only [hi,Option.map_some,Option.some.injEq] at p
   subst p
   exact lendC_rp ok (e2 i av0 u hi q) (List.all_eq_true.1 hp _ (List.mem_of_getElem? (by rw [List.getElem?_map,hi];rfl)))
 ·have hv:=h4.sc_eq
  subst hv
  exact ⟨_,he,hN _ { G with F:=G.F } w1 (fun σ'' a'' ok''=>ok''.called hb (fun _ _ x=>x) (fun p u x=>by rw [hb.cell (cell_block (ok.fw p u x))];exact ok.fw p u x) (fun _ _ x=>.inl x)) (.pu _ _ (.sc _)) (RP.bd (F:=G.F) (.sc _) _)⟩
end
end Go.Proofs.YtgelfflighgajaaGreatDoor
namespace Go.Proofs.YtgelfflighgajaaGreatDoor
open Go.RowKit
def tame:Op→Bool
 | .move _=>true
 | .assign _=>true
 | .alloc _=>true
 | .box _ _=>true
 | .load _ _=>true
 | .store _ _ _=>true
 | .fieldAddr _ _ _=>true
 | .field _ _ _=>true
 | .indexAddr _ _ _=>true
 | .index _ _ _=>true
 | _=>false
section
variable {P:Program} {o:Oper} {a:Act} {w:World} {K K1 K2:Act→World→Prop} {Q:Exit→Act→World→Prop}
theorem run_v (s:Sem Value)(n:Next)(w':World)(h:(do pure (Next.value (← s)):Sem Next).run P w=.ok n w'):∃ x,n=.value x:=by
 rw [Sem.run_bind]at h
 cases hs:s.run P w with
 | ok x w1=>rw [hs]at h;simp only [Result.andThen,Sem.run_pure]at h;cases h;exact⟨x,rfl⟩
 | halt x w1=>rw [hs]at h;simp only [Result.andThen]at h;cases h
theorem run_u(s:Sem Unit)(n:Next)(w':World)(h:(do s;pure Next.skip:Sem Next).run P w=.ok n w'):n=.skip:=by
 rw [Sem.run_bind]at h
 cases hs:s.run P w with
 | ok x w1=>rw [hs]at h;simp only [Result.andThen,Sem.run_pure]at h;cases h;rfl
 | halt x w1=>rw [hs]at h;simp only [Result.andThen]at h;cases h
end
structure Laid (ops A:Array Oper)(π ρ:Nat→Nat)(i j:Nat):Prop where
 sz:A.size=ops.size
 lt:∀ p,p<ops.size→π p<ops.size
 inv:∀ p,p<ops.size→ρ (π p)=p
 ltr:∀ q,q<ops.size→ρ q<ops.size
 inr:∀ q,q<ops.size→π (ρ q)=q
 hi:i<ops.size
 hj:j<ops.size
 op:∀ (p:Nat)(o:Oper),ops[p]?=some o→∃ X:Array Edge,A[π p]?=some { o with after:=X }∧(∀ e∈X,Region.binds .any e=true→(∃ e'∈o.after,Region.binds .any e'=true∧e.on=π e'.on)∨(p=j∧e.on=π i)) ∧
  (∀ e'∈o.after,Region.binds .any e'=true→∃ e∈X,Region.binds .any e=true∧e.on=π e'.on)
 tm:∀ (p:Nat)(o:Oper),ops[p]?=some o→tame o.op=true∧o.guard=none∧∀ e∈o.after,e.on<ops.size
structure Agr (n:Nat)(π:Nat→Nat)(L LA:Array Bool):Prop where
 s1:L.size=n
 s2:LA.size=n
 at_:∀ p,p<n→LA.getD (π p) false=L.getD p false
section
variable {P:Program} {ops A B:Array Oper} {π ρ π' ρ':Nat→Nat} {i j k:Nat} {L LA LB:Array Bool} {a:Act} {w:World} {K K1 K2:Act→World→Prop} {Q:Exit→Act→World→Prop}
theorem getD_tf {L:Array Bool} {p:Nat} (h:p<L.size):L.getD p true=L.getD p false:=by simp [Array.getD_eq_getD_getElem?,h]
theorem ready_lt(h:k∈Region.ready .any ops L):k<ops.size:=by
 obtain⟨_,o,ho,_⟩:=mem_ready.1 h
 exact(Array.getElem?_eq_some_iff.1 ho).1
end
end Go.Proofs.YtgelfflighgajaaGreatDoor
namespace Go.Proofs.YtgelfflighgajaaGreatDoor
open Go.RowKit
section
variable {P:Program} {C:Cx} {σ σ':St} {G G':Gh} {a:Act} {w w':World} {ops:Array Oper} {Q:Exit→St→Prop}
def DoesS (P:Program) (C:Cx) (ops:Array Oper) (o:Oper) (σ:St) (av:AV) (M':List (Nat×AO)) (nk':Nat):Prop :=
 o.guard=none∧∀ t,(∀ q∈o.looksAt ops,look q t=look q σ.t)→WO P C o ⟨t,σ.M,σ.nk⟩ ⟨ent1 o.dst true av++t,M',nk'⟩
inductive DS (P:Program) (C:Cx) (ops:Array Oper) (mem:List Bool) (Mc:List (Nat×AO)) (nk0:Nat):Nat→List Oper→St→St→Prop
 | nil (k:Nat) (σ:St):DS P C ops mem Mc nk0 k [] σ σ
 | val (k:Nat) (o:Oper) (rest:List Oper) (d:Tmp) (av:AV) (nk:Nat) (σ σ':St):mem.getD k false=false→o.dst=some d→Nat.blt d C.N=true→(nk=nk0∨(nk=σ.nk∧behindB ops mem k=true))→DoesV P C ops o σ.t Mc nk av →
   DS P C ops mem Mc nk0 (k+1) rest (σ.put d av) σ'→DS P C ops mem Mc nk0 k (o::rest) σ σ'
 | mem (k:Nat) (o:Oper) (rest:List Oper) (av:AV) (M':List (Nat×AO)) (nk':Nat) (σ σ':St):mem.getD k false=true→Nat.ble σ.nk nk'=true→msSub Mc M'→DoesS P C ops o σ av M' nk' →
   DS P C ops mem Mc nk0 (k+1) rest ⟨ent1 o.dst true av++σ.t,M',nk'⟩ σ'→DS P C ops mem Mc nk0 k (o::rest) σ σ'
end
end Go.Proofs.YtgelfflighgajaaGreatDoor
namespace Go.Proofs.YtgelfflighgajaaGreatDoor
open Go.RowKit
def aft (π:List Nat)(i j p:Nat)(o:Oper):List Edge:=((o.after.toList.filter (Region.binds .any)).map fun (e:Edge)=>(⟨π.getD e.on 0,.data⟩:Edge))++(bif Nat.beq p j then [(⟨π.getD i 0,.data⟩:Edge)]else [])
def reo (L:List Oper) (π ρ:List Nat) (i j:Nat):List Oper:=(List.range L.length).map fun q =>
 { L.getD (ρ.getD q 0) default with after:=(aft π i j (ρ.getD q 0) (L.getD (ρ.getD q 0) default)).toArray }
end Go.Proofs.YtgelfflighgajaaGreatDoor
namespace Go.Proofs.YtgelfflighgajaaGreatDoor
open Go.RowKit
section
variable {B:World→View→Prop} {gl:Nat} {P:Program} {C:Cx} {σ:St} {o:Oper} {d:Tmp} {ops:Array Oper} {rest:List Oper} {Q:Exit→St→Prop}
theorem set_same_ {α:Type} {l:List α} {i:Nat} {x:α} (h:l[i]?=some x):l.set i x=l:=by
 obtain⟨hi,rfl⟩:=List.getElem?_eq_some_iff.1 h
 exact List.set_getElem_self hi
end
end Go.Proofs.YtgelfflighgajaaGreatDoor
namespace Go.Proofs.YtgelfflighgajaaGreatDoor
open Go.RowKit
theorem rRight2_FS (v:Int)(d t:Bool):Ctr Tryz.prog 137 [.ag [.sc (.int .i64 v),.sc (.bool d),.sc (.bool t)]] (.sc (.bool (sgOk v d t))):=by
 intro w F vs hF hR
 match vs,hR.1 with
 | [x],_ =>
  obtain⟨cs,rfl,h1,h2⟩:∃ cs:Array Value,x=.agg cs∧cs.size=3∧∀ (i:Nat)av u,[AV.sc (.int .i64 v),.sc (.bool d),.sc (.bool t)][i]?=some av→cs[i]?=some u→RP F av u:=by
   cases hR.2 0 _ x rfl rfl with|ag l cs a b=>exact⟨cs,rfl,a,b⟩
  have g:∀ i (h:i<3),cs[i]?=some (cs[i]'(by omega)):=fun i h=>Array.getElem?_eq_getElem (by omega)
  have e:cs=#[.int .i64 v,.bool d,.bool t]:=by
   apply Array.ext (by simp [h1])
   intro i hi hi2
   match i,(show i<3 by omega)with
   | 0,_=>exact (h2 0 _ _ rfl (g 0 (by omega))).sc_eq
   | 1,_=>exact (h2 1 _ _ rfl (g 1 (by omega))).sc_eq
   | 2,_=>exact (h2 2 _ _ rfl (g 2 (by omega))).sc_eq
  subst e
  exact (right_any v d t w).mono fun e w'⟨he,hb⟩=>⟨_,F,he,hb,fun _ _ h=>h,fun p u x=>by rw [hb.cell (cell_block (hF p u x))];exact hF p u x,fun _ _ h=>.inl h,.sc _⟩
theorem rLong_FS (p:Pce) (hO:PcOk p) (i x:Int):Ctr Tryz.prog 86 [ePce p,.sc (.int .i64 i),.sc (.int .i64 x)] (.sc (.int .i64 (longestN p.evs i x))) :=
 Ctr.of_pc (pre:=[]) (post:=[.sc (.int .i64 i),.sc (.int .i64 x)]) rfl rfl (fun _=>.sc _) fun w M hM=>rLongest_any M p i x w hM hO
end Go.Proofs.YtgelfflighgajaaGreatDoor
namespace Go.Proofs.YtgelfflighgajaaGreatDoor
open Go.RowKit
theorem wrapU_of {n:Int} (h0:0≤n)(h1:n≤1000000):IntKind.u64.wrap n=n:=by
 have e:n % 18446744073709551616=n:=Int.emod_eq_of_lt h0 (by omega)
 simp [IntKind.wrap,IntKind.bits,IntKind.signed,e]
theorem wrapI_of {n:Int} (h0:0≤n) (h1:n≤1000000):IntKind.i64.wrap n=n:=I64.wrap ⟨by omega,by omega⟩
section
variable {P:Program} {C:Cx} {σ:St} {o:Oper} {d:Tmp} {ops:Array Oper} {rest:List Oper} {Q:Exit→St→Prop}
def shrV (σ:St):Op→Option Int
 | .binOp .shr _ x y _ =>
  match σ.ev x,σ.ev y with
  | some (.sc (.int .u64 n)),some (.sc (.int .u64 1))=>some n
  | _,_=>none
 | _=>none
theorem shrV_of {n m:Int} (h:shrV σ o.op=some n)(hm:n.fdiv 2=m):WV P C o σ (.sc (.int .u64 m)):=by
 unfold shrV at h
 split at h
 ·rename_i T x y Ty ho
  split at h
  ·rename_i n' hx hy
   cases h
   subst hm
   exact WV.sc fun G a w ok=>by unfold execOp;simp [ho,ok.evs hx,ok.evs hy,eqGuard,binOp,Op.shift,IntKind.bits]
  ·cases h
 ·cases h
theorem WL.shr {n m:Int} (hd:dstB C.N o=some d)(h:shrV σ o.op=some n)(hm:n.fdiv 2=m)(k:WL P C ops rest (σ.put d (.sc (.int .u64 m))) Q):WL P C ops (o::rest) σ Q:=WL.vl hd (shrV_of h hm) k
end
end Go.Proofs.YtgelfflighgajaaGreatDoor
namespace Go.Proofs.YtgelfflighgajaaGreatDoor
open Go.RowKit
attribute [local go_sem]mk_bs bs_size bs_toList bs_append bs_extract
attribute [local simp]run_cut run_cut_to run_cut_from run_add_bs
theorem of_4 (w:World):Calls Tryz.prog 122 #[.int .u8 4] w fun e w'=>e=.returned (.tuple #[(.iface 261 (.agg #[])),.bool true])∧w=w':=by
 go_enter Tryz.func122,Tryz.ntmps122
 go_wp2
 go_ret2
 exact⟨rfl,rfl⟩
end Go.Proofs.YtgelfflighgajaaGreatDoor
namespace Go.Proofs.YtgelfflighgajaaGreatDoor
open Go.RowKit
theorem pcCopy_FS (p:Pce) (hO:PcOk p):Ctr Tryz.prog 17 [ePce p] (ePce p):=by
 refine Ctr.intro Tryz.func17 rfl Tryz.ntmps17 (Nat.le_of_ble_eq_true rfl) (bd_all rfl) fun w0 F0=>?_
 have hn3:=hO.n3
 repeat refine W.go rfl ?_
 refine (?_:WL _ _ _ _ _ _)
 refine WL.vl rfl (WV.call rfl (callF Tryz.func53 rfl rfl) rfl rfl (insCopy_FS p.cs p.st hO.n1 hO.n2)) ?_
 repeat (first|refine W.go rfl ?_|refine WL.ev rfl ?_)
 refine (?_:W _ _ _ _ _)
 refine W.tr (Tr.nilBox (k:=2) (j:=2) 36 6 rfl rfl rfl rfl) ?_
 refine W.loop (fun k:Nat=>k≤p.evs.length) (fun k=>⟨[(1,.pt 0 0 0),(2,.pt 1 0 0),(3,.pt 2 0 0),(4,.sc (.int .i64 k))],[(0,.box 28 [.ls 3 (p.cs.map eCrs),.ls 1 (p.st.map eInt),.ls 6 (p.evs.map eEv)]),(1,.box 28 [.sc (.slice none 0 0),.sc (.slice none 0 0),.sc (.slice none 0 0)]),(2,.box 28 [.ls 3 (p.cs.map eCrs),.ls 1 (p.st.map eInt),.sl 3]),(3,.row 36 6 ((p.evs.take k).map eEv))],4⟩) (fun k=>p.evs.length - k) 0 (by omega) (zqt id) fun k hk=>?_
 repeat (first|refine W.go rfl ?_|refine WL.ev rfl ?_|refine WL.len rfl rfl zql ?_)
 refine (?_:W _ _ _ _ _)
 (refine W.cond rfl (fun hif=>?_) (fun hif=>?_)<;>(try simp only [decide_eq_true_eq,decide_eq_false_iff_not,Int.not_lt,Int.not_le,Bool.not_eq_true',Bool.not_eq_false'] at hif))
 ·have hk2:k < p.evs.length:=by omega
  have h20:=hO.n4 k hk2
  repeat (first|refine W.go rfl ?_|refine WL.ev rfl ?_|refine WL.idx rfl rfl (by omega) zqm ?_|refine WL.app rfl rfl rfl (by first|omega|(simp;done)|(simp;omega)) ?_)
  refine (?_:WL _ _ _ _ _ _)
  refine WL.tr (Tr.freeze 6 rfl) ?_
  repeat (first|refine W.go rfl ?_|refine WL.ev rfl ?_|refine WL.ar rfl rfl (by unfold I64;omega) ?_|refine WL.app rfl rfl rfl (by first|omega|(simp;done)|(simp;omega)) ?_)
  refine ⟨k+1,by omega,by omega,zqu (fun q=>bif Nat.beq q 3 then 8 else q) (by repeat (first|exact trivial|refine ⟨⟨?_,?_,?_⟩,?_⟩|exact congrArg (fun r=>some (AO.row _ _ r)) (take_map_succ hk2)|rfl)) rfl⟩
 ·have he:k=p.evs.length:=by omega
  subst he
  repeat refine W.go rfl ?_
  refine (?_:W _ _ _ _ _)
  refine W.tr (Tr.freeze 3 rfl) ?_
  refine W.ret (fin_cell rfl rfl rfl rfl rfl rfl ?_ rfl)
  show AV.ag [_,_,.ls 6 ((p.evs.take p.evs.length).map eEv)]=ePce p
  rw [List.take_length]
  rfl
end Go.Proofs.YtgelfflighgajaaGreatDoor
namespace Go.Proofs.YtgelfflighgajaaGreatDoor.bookTransposed
open Go
theorem q1:(Rows.bookTransposedRow.inPlace == Tryz.pinned.checked.prog.inPlace 13)=true:=by kernel_rfl
theorem q2:(Rows.bookTransposedRow.unfollowed == Tryz.pinned.checked.prog.unfollowed 13)=true:=by kernel_rfl
theorem q3:(Rows.bookTransposedRow.recurses == Tryz.pinned.checked.prog.recurses 13)=true:=by kernel_rfl
theorem q4:(Rows.bookTransposedRow.named == Tryz.pinned.checked.prog.varsNamed 13)=true:=by kernel_rfl
theorem wf_:Rows.bookTransposedRow.wfByText (OpenSpec.ofChange Rows.bookTransposedSpec)=true:=by kernel_rfl
theorem goes_:false=Rows.bookTransposedRow.goesBy Tryz.pinned.checked.prog:=by kernel_rfl
theorem closed:joinedFacts Tryz.pinned.checked.prog 13 Tryz.f13 Rows.bookTransposedSpec Rows.bookTransposedRow=true:=by
 unfold joinedFacts
 rw [q1,q2,q3,q4]
 kernel_rfl
end Go.Proofs.YtgelfflighgajaaGreatDoor.bookTransposed
