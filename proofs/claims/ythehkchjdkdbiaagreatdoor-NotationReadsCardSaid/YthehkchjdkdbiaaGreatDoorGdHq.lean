/- A piece without error: all that is known of its stops. -/
import Derived.Lib.SmallJoins
import Derived.Test.YthehkchjdkdbiaaGreatDoorStPHq
import Derived.Test.YthehkchjdkdbiaaGreatDoorRi0Hq
import Derived.Test.YthehkchjdkdbiaaGreatDoorPl1Hq
import Derived.Test.YthehkchjdkdbiaaGreatDoorPl2Hq
import Derived.Test.YthehkchjdkdbiaaGreatDoorPl3Hq
import Derived.Test.YthehkchjdkdbiaaGreatDoorPl4Hq
set_option maxHeartbeats 1600000
set_option maxRecDepth 100000
set_option linter.unusedVariables false
set_option linter.unusedSimpArgs false
namespace Go.Proofs.YthehkchjdkdbiaaGreatDoor
section
open Go.RowKit Go.WideShapes Go.ChangeShapes Go.Joins Go.Deep
section
variable {H:Type} {enc:TypeId×Value→H} {P:Program} {w:World} {base:Nat} {spare:Nat→Bool} {held:Bool}
theorem post_of_below {f:Func} {s:ChangeSpec} {apart fresh handsOn again:Bool} {W W':World} {args:Array Value} {v:Value} {ds gs:List (DataW H)} {before pa pv:List MemPlace}
  (hW:DataW.Whole enc P f.params.toList s.vars apart W args.toList ds gs before)
  (hres:∀ (b:Nat) (sp:Nat→Bool) (hd:Bool),DataW.TrodAll enc P W' b sp hd f.resultTypes.toList (v.resultList f.resultTypes.size) (s.fn H (ds++gs)).results [])
  (hargs:∀ sp:Nat→Bool,(∀ p∈before,sp p.block=true)→DataW.TrodAll enc P W' 0 sp true f.params.toList args.toList (s.fn H (ds++gs)).args pa)
  (hvars:∀ sp:Nat→Bool,(∀ p∈before,sp p.block=true)→DataW.TrodVars enc P W' sp s.vars (s.fn H (ds++gs)).vars pv)
  (hps:before=pa++pv) (hb:Below W.heap.size W W')
  (hok:∀ (j:Nat) (t:TypeId) (r:Value),f.resultTypes[j]?=some t→(v.resultList f.resultTypes.size)[j]?=some r→Value.okWide P W' .any 0 t r) :
  s.post enc P f apart fresh handsOn again W args v W':=by
 have hlt:∀ p∈before,p.block<W.heap.size:=fun p hp=>hW.lt p hp
 have hold:∀ p∈before,(fun b=>decide (b<W.heap.size)) p.block=true:=fun p hp=>by simpa using hlt p hp
 refine ⟨ds,gs,before,[],pa,pv,hW,hres _ _ _,hargs _ hold,hvars _ hold,World.keptBut_mono (fun p hp=>⟨hp,?_⟩) (hb.frame (·∈before)),fun _=>?_⟩
 ·rw [hps,List.mem_append] at hp
  exact Or.inr hp
 ·obtain ⟨_,_,_,_,_,hz,hn⟩:=hW
  refine ⟨hok,_,_,([]++pa)++pv,⟨[]++pa,pv,trodAll_append (hargs _ (fun _ _=>rfl)) (hres _ _ _),hvars _ (fun _ _=>rfl),rfl,?_,?_⟩,?_⟩
  ·intro b off hp
   have hin:MemPlace.cell b off∈before:=by rw [hps];simpa using hp
   rw [hb.frozen (hlt _ hin)]
   exact hz b off hin
  ·intro ha
   have:=hn ha
   rw [hps] at this
   simpa using this
  ·intro p hp _
   rw [hps]
   simpa using hp
end
end
section
open Go.RowKit
def tabN (w:World) (F:View):Prop :=
 (∀ (i:Nat)v,bsL[i]?=some v→F ⟨1,i,none⟩=some (.int .i64 v))∧Lib.TabIs Tryz.prog w "internal/strconv.uint64pow10" .u64 Lib.pow10Tab ∧
 (∃ m,w.cell? ⟨2,0,none⟩=some (.int .i64 m))
def gloN:Nat:=max 5 2+1
theorem pow10N:Tryz.prog.globalNamed "internal/strconv.uint64pow10"=some 5:=by kernel_rfl
theorem varN_lt {w:World} {cs:Array Value} {s:String} {g:Nat} (hg:Tryz.prog.globalNamed s=some g)(h:w.var? Tryz.prog s=some cs):g<w.heap.size:=by
 unfold World.var? at h
 rw [hg]at h
 rcases Nat.lt_or_ge g w.heap.size with h1|h1
 ·exact h1
 ·simp [Array.getElem?_eq_none h1]at h
theorem cellN_keeps {w w':World} {b i:Nat} {v:Value} (h:w'.heap[b]?=w.heap[b]?) (hc:w.cell? ⟨b,i,none⟩=some v):w'.cell? ⟨b,i,none⟩=some v:=by
 unfold World.cell? at hc ⊢
 rw [show w'.heap[(⟨b,i,none⟩:Addr).block]?=w.heap[(⟨b,i,none⟩:Addr).block]? from h];exact hc
theorem tabN_keeps {w w':World} {s:String} {k:IntKind} {l:List Int} {g:Nat} (hg:Tryz.prog.globalNamed s=some g)(hb:w'.heap[g]?=w.heap[g]?)(h:Lib.TabIs Tryz.prog w s k l):Lib.TabIs Tryz.prog w' s k l:=by
 unfold Lib.TabIs World.var? at h ⊢
 rw [hg]at h ⊢
 simp only [Option.bind_some]at h ⊢
 rw [hb];exact h
theorem stabN:Stab tabN gloN:=by
 refine⟨fun w F h=>?_,fun w w' F F' hb hF h=>?_⟩
 ·obtain⟨h0,h1,⟨m,h3⟩⟩:=h
  have a1:=varN_lt pow10N h1
  have a3:=cell_block h3
  unfold gloN
  omega
 ·obtain⟨h0,h1,⟨m,h3⟩⟩:=h
  exact⟨fun i v x=>hF _ _ (h0 i v x),tabN_keeps pow10N (hb _ (by unfold gloN;omega)) h1,⟨m,cellN_keeps (hb _ (by unfold gloN;omega)) h3⟩⟩
theorem tabN_bases {z:Int} (h:0≤z∧z≤6):∀ w F,tabN w F→F ⟨1,z.toNat,none⟩=some (.int .i64 (basV z)):=fun w F hB=>hB.1 _ _ (basV_at h)
theorem Ctg.of_scN {B:World→View→Prop} {P:Program} {f:FuncId} {args:List AV} {xs:List Value} {res:AV} {v:Value} (hs:scs args=some xs)(hv:∀ F,RP F res v)(h:∀ w F,B w F→Calls P f xs.toArray w (Ret v w)):Ctg B P f args res:=by
 intro w F vs hB hF hR
 have:vs=xs:=scs_of (G:=⟨F,fun _=>0,fun _=>0,fun _=>undef,fun _ _=>False⟩) hs hR.1 fun i av u a b=>.pu _ _ (hR.2 i av u a b)
 subst this
 exact (h w F hB).mono fun e w'⟨he,hb⟩=>⟨v,F,he,hb,fun _ _ h=>h,fun p u x=>by rw [hb.cell (cell_block (hF p u x))];exact hF p u x,fun _ _ h=>.inl h,hv F⟩
theorem itoaN_G (n:Int)(h:I64 n):Ctg tabN Tryz.prog 108 [.sc (.int .i64 n)] (.sc (.string (bs (Lib.itoa n)))) :=
 Ctg.of_scN (v:=.string (bs (Lib.itoa n))) rfl (fun _=>.sc _) fun w F hB=>(Tryz.strconv_Itoa n h.1 (by have:=h.2;omega) w hB.2.1).mono fun e w'⟨he,k,os,hw⟩=>⟨he,by
  subst hw
  refine⟨rfl,rfl,rfl,?_,fun i hi=>?_⟩
  ·show w.heap.size≤(w.heap++os).size
   rw [Array.size_append];omega
  ·show (w.heap++os)[i]?=w.heap[i]?
   rw [Array.getElem?_append_left hi]⟩
end
section
open Go.RowKit
def lendB (M:List (Nat×AO)):AV→AV
 | .sl k=>match look k M with
  | some (.row _ n rows)=>.ls n rows
  | _=>.sl k
 | av=>av
section
variable {B:World→View→Prop} {gl:Nat} {P:Program} {C:Cx} {ops:Array Oper} {rest:List Oper} {σ σ':St} {G G':Gh} {a:Act} {w w':World} {o:Oper} {d:Tmp} {Q:Exit→St→Prop}
theorem truST:∀ w F F',View.le F F'→truB w F→truB w F':=fun _ _ _ _ h=>h
def sixV (P:Program) (σ:St):Op→Option (List UInt8×Int)
 | .index T x y =>
  match P.underlying T,σ.ev x,σ.ev y with
  | some .string,some (.sc (.string ⟨⟨s⟩⟩)),some (.sc (.int _ i))=>some (s,i)
  | _,_,_=>none
 | _=>none
theorem run_six {T:TypeId} {s:List UInt8} {k:IntKind} {i:Int} (hT:P.underlying T=some .string) (h0:0≤i) (h1:i<s.length) :
  (Instr.index T (.string (bs s)) (.int k i)).run P w=.ok (.int .u8 ((s.getD i.toNat 0).toNat:Int)) w:=by
 have hl:i.toNat<s.length:=by omega
 have e:(bs s)[i.toNat]?=some (s.getD i.toNat 0):=by
  rw [List.getD_eq_getElem?_getD,List.getElem?_eq_getElem hl]
  have hs:i.toNat<(bs s).size:=by rw [bs_size];exact hl
  rw [getElem?_pos (bs s) i.toNat hs]
  rfl
 simp [Instr.index,asIntOf,run_underlying hT,h0,e]
theorem sixV_of {s:List UInt8} {i:Int} (h:sixV P σ o.op=some (s,i)) (hb:0≤i∧i<s.length):WV P C o σ (.sc (.int .u8 ((s.getD i.toNat 0).toNat:Int))):=by
 unfold sixV at h
 split at h
 ·rename_i T x y ho
  split at h
  ·rename_i s' k i' hT hx hy
   cases h
   refine WV.sc fun G a w ok=>?_
   unfold execOp
   simp only [ho,ok.evs hx,ok.evs hy,Sem.run_bind]
   have h6:(Instr.index T (.string ⟨⟨s⟩⟩) (.int k i)).run P w=.ok (.int .u8 ((s.getD i.toNat 0).toNat:Int)) w:=run_six hT hb.1 hb.2
   rw [h6];rfl
  ·cases h
 ·cases h
theorem WL.six {s:List UInt8} {i:Int} (hd:dstB C.N o=some d)(h:sixV P σ o.op=some (s,i))(hb:0≤i∧i<s.length)(k:WL P C ops rest (σ.put d (.sc (.int .u8 ((s.getD i.toNat 0).toNat:Int)))) Q):WL P C ops (o::rest) σ Q :=
 WL.vl hd (sixV_of h hb) k
end
end
section
open Go.RowKit
def onB:AV→Bool
 | .sc v=>v.oneCell'
 | .ls _ _=>true
 | _=>false
section
variable {B:World→View→Prop} {gl:Nat} {P:Program} {C:Cx} {ops:Array Oper} {rest:List Oper} {σ σ':St} {G G':Gh} {a:Act} {w w':World} {o:Oper} {d:Tmp} {Q:Exit→St→Prop}
theorem onB_of {av:AV} {u:Value} (h:onB av=true)(r:R G av u):u.oneCell'=true∧RP G.F av u∧av.own=false:=by
 cases av with
 | sc v =>
  obtain rfl:=r.sc_eq
  exact⟨h,.sc _,rfl⟩
 | ls n rows =>
  have h2:RP G.F (.ls n rows) u:=(pu2_bd (av:=.ls n rows) rfl 0).rp r
  obtain⟨A,cap,ad,u',rfl,_⟩:=h2.ls_of
  exact⟨rfl,h2,rfl⟩
 | _=>cases h
end
end
section
open Go.RowKit
def tame:Op→Bool
 | .move _=>true
 | .assign _=>true
 | .alloc _=>true
 | .box _ _=>true
 | .load _ _=>true
 | .store _ _ _=>true
 | .fieldAddr _ _ _=>true
 | .field _ _ _=>true
 | .indexAddr _ _ _=>true
 | .index _ _ _=>true
 | _=>false
section
variable {P:Program} {o:Oper} {a:Act} {w:World} {K K1 K2:Act→World→Prop} {Q:Exit→Act→World→Prop}
theorem run_v (s:Sem Value)(n:Next)(w':World)(h:(do pure (Next.value (← s)):Sem Next).run P w=.ok n w'):∃ x,n=.value x:=by
 rw [Sem.run_bind]at h
 cases hs:s.run P w with
 | ok x w1=>rw [hs]at h;simp only [Result.andThen,Sem.run_pure]at h;cases h;exact⟨x,rfl⟩
 | halt x w1=>rw [hs]at h;simp only [Result.andThen]at h;cases h
theorem run_u(s:Sem Unit)(n:Next)(w':World)(h:(do s;pure Next.skip:Sem Next).run P w=.ok n w'):n=.skip:=by
 rw [Sem.run_bind]at h
 cases hs:s.run P w with
 | ok x w1=>rw [hs]at h;simp only [Result.andThen,Sem.run_pure]at h;cases h;rfl
 | halt x w1=>rw [hs]at h;simp only [Result.andThen]at h;cases h
end
structure Laid (ops A:Array Oper)(π ρ:Nat→Nat)(i j:Nat):Prop where
 sz:A.size=ops.size
 lt:∀ p,p<ops.size→π p<ops.size
 inv:∀ p,p<ops.size→ρ (π p)=p
 ltr:∀ q,q<ops.size→ρ q<ops.size
 inr:∀ q,q<ops.size→π (ρ q)=q
 hi:i<ops.size
 hj:j<ops.size
 op:∀ (p:Nat)(o:Oper),ops[p]?=some o→∃ X:Array Edge,A[π p]?=some { o with after:=X }∧(∀ e∈X,Region.binds .any e=true→(∃ e'∈o.after,Region.binds .any e'=true∧e.on=π e'.on)∨(p=j∧e.on=π i)) ∧
  (∀ e'∈o.after,Region.binds .any e'=true→∃ e∈X,Region.binds .any e=true∧e.on=π e'.on)
 tm:∀ (p:Nat)(o:Oper),ops[p]?=some o→tame o.op=true∧o.guard=none∧∀ e∈o.after,e.on<ops.size
structure Agr (n:Nat)(π:Nat→Nat)(L LA:Array Bool):Prop where
 s1:L.size=n
 s2:LA.size=n
 at_:∀ p,p<n→LA.getD (π p) false=L.getD p false
section
variable {P:Program} {ops A B:Array Oper} {π ρ π' ρ':Nat→Nat} {i j k:Nat} {L LA LB:Array Bool} {a:Act} {w:World} {K K1 K2:Act→World→Prop} {Q:Exit→Act→World→Prop}
theorem getD_tf {L:Array Bool} {p:Nat} (h:p<L.size):L.getD p true=L.getD p false:=by simp [Array.getD_eq_getD_getElem?,h]
theorem ready_lt(h:k∈Region.ready .any ops L):k<ops.size:=by
 obtain⟨_,o,ho,_⟩:=mem_ready.1 h
 exact(Array.getElem?_eq_some_iff.1 ho).1
end
end
section
open Go.RowKit
section
variable {P:Program} {C:Cx} {σ σ':St} {G G':Gh} {a:Act} {w w':World} {ops:Array Oper} {Q:Exit→St→Prop}
def DoesS (P:Program) (C:Cx) (ops:Array Oper) (o:Oper) (σ:St) (av:AV) (M':List (Nat×AO)) (nk':Nat):Prop :=
 o.guard=none∧∀ t,(∀ q∈o.looksAt ops,look q t=look q σ.t)→WO P C o ⟨t,σ.M,σ.nk⟩ ⟨ent1 o.dst true av++t,M',nk'⟩
inductive DS (P:Program) (C:Cx) (ops:Array Oper) (mem:List Bool) (Mc:List (Nat×AO)) (nk0:Nat):Nat→List Oper→St→St→Prop
 | nil (k:Nat) (σ:St):DS P C ops mem Mc nk0 k [] σ σ
 | val (k:Nat) (o:Oper) (rest:List Oper) (d:Tmp) (av:AV) (nk:Nat) (σ σ':St):mem.getD k false=false→o.dst=some d→Nat.blt d C.N=true→(nk=nk0∨(nk=σ.nk∧behindB ops mem k=true))→DoesV P C ops o σ.t Mc nk av →
   DS P C ops mem Mc nk0 (k+1) rest (σ.put d av) σ'→DS P C ops mem Mc nk0 k (o::rest) σ σ'
 | mem (k:Nat) (o:Oper) (rest:List Oper) (av:AV) (M':List (Nat×AO)) (nk':Nat) (σ σ':St):mem.getD k false=true→Nat.ble σ.nk nk'=true→msSub Mc M'→DoesS P C ops o σ av M' nk' →
   DS P C ops mem Mc nk0 (k+1) rest ⟨ent1 o.dst true av++σ.t,M',nk'⟩ σ'→DS P C ops mem Mc nk0 k (o::rest) σ σ'
end
end
section
open Go.RowKit
def aft (π:List Nat)(i j p:Nat)(o:Oper):List Edge:=((o.after.toList.filter (Region.binds .any)).map fun (e:Edge)=>(⟨π.getD e.on 0,.data⟩:Edge))++(bif Nat.beq p j then [(⟨π.getD i 0,.data⟩:Edge)]else [])
def reo (L:List Oper) (π ρ:List Nat) (i j:Nat):List Oper:=(List.range L.length).map fun q =>
 { L.getD (ρ.getD q 0) default with after:=(aft π i j (ρ.getD q 0) (L.getD (ρ.getD q 0) default)).toArray }
end
section
open Go.RowKit
section
variable {B:World→View→Prop} {gl:Nat} {P:Program} {C:Cx} {σ:St} {o:Oper} {d:Tmp} {ops:Array Oper} {rest:List Oper} {Q:Exit→St→Prop} {mem:List Bool} {Mc:List (Nat×AO)} {nk0 k:Nat}
def nlqV (P:Program)(σ:St):Op→Option (List (List AV))
 | .binOp .eql T x y _ =>
  match P.underlying T,σ.ev x,σ.ev y with
  | some (.slice _),some (.ls _ rows),some (.sc (.slice none _ _))=>some rows
  | _,_,_=>none
 | _=>none
theorem WL.nlq {rows:List (List AV)} (hd:dstB C.N o=some d) (h:nlqV P σ o.op=some rows) (hk:∀ b:Bool,(b=true→rows=[])→WL P C ops rest (σ.put d (.sc (.bool b))) Q):WL P C ops (o::rest) σ Q:=by
 intro G a w ok
 unfold nlqV at h
 split at h
 ·rename_i T x y Ty ho
  split at h
  ·rename_i e n rows' m c hT hx hy
   cases h
   obtain ⟨A,cap,ad,u,e1,h1,h2,h3,h4,h5⟩:=(ok.evr hx).2.pu_of.ls_of
   have ey:=ok.evs hy
   obtain ⟨q1,q2,q3⟩:=dstB_of hd
   refine wpList_plain q1 fun K hK=>?_
   unfold Oper.wp execOp
   have hrun:=Lib.run_eql_slice_nil (P:=P) w T e A rows.length cap m c hT
   simp only [ho,e1,ey,eqGuard,Sem.run_bind,Sem.run_pure,Result.andThen_ok,hrun]
   simp only [Bool.not_true,Bool.false_eq_true,if_false,Sem.run_bind,Sem.run_pure,Result.andThen_ok,hrun,Oper.upon]
   refine hK _ _ (hk A.isNone (fun hn=>?_) G _ w ?_)
   ·cases A with
    | some z=>cases hn
    | none =>
     rcases Nat.eq_zero_or_pos rows.length with h0|h0
     ·exact List.eq_nil_of_length_eq_zero h0
     ·exact absurd (h2 h0) (by simp)
   ·rw [q2]
    exact ok.set (d:=some d) (.pu _ _ (.sc _)) (.sc _) fun x hx=>by cases hx;exact of_blt q3
  ·cases h
 ·cases h
theorem Tr.nilC (k j n:Nat) {T:TypeId} {cells cells':List AV} (hk:look k σ.M=some (.box T cells)) (hj:cells[j]?=some (.sc (.slice none 0 0))) (he:cells.set j (.ls n [])=cells'):Tr C σ (σ.upd k (.box T cells')):=fun G a w ok=>by
 subst he
 obtain ⟨g1,g2,g3,cs,Φ,g4,g5,g6,g7,g8⟩:=ok.ob k _ hk
 have hjl:=(List.getElem?_eq_some_iff.1 hj).1
 refine ⟨G,ok.reob hk ⟨g1,fun i av hx=>?_,g3,cs,Φ,g4,by simpa using g5,g6,g7,fun i av u hx hu=>?_⟩⟩
 ·by_cases e:j=i
  ·subst e
   rw [List.getElem?_set_self hjl] at hx
   cases hx;exact .ls _ _
  ·rw [List.getElem?_set_ne e] at hx;exact g2 i av hx
 ·by_cases e:j=i
  ·subst e
   rw [List.getElem?_set_self hjl] at hx
   cases hx
   have:=(g8 j _ u hj hu).r rfl
   rw [this.sc_eq]
   exact .inl (.pu _ _ (.ls n [] none 0 ⟨0,0,none⟩ (fun _ _=>undef) (by simp) (by simp) (by simp) (by simp) (by simp)))
  ·rw [List.getElem?_set_ne e] at hx;exact g8 i av u hx hu
end
end
section
open Go.RowKit
theorem crsE_fr {st:List Int}:∀ {cs:List (Int×Int×Bool)},crsE st cs=0→∀ k (h:k<cs.length),0≤cs[k].2.1∧cs[k].2.1≤st.length:=by
 intro cs
 induction cs with
 | nil=>intro _ k h;simp at h
 | cons x r ih =>
  intro h k hk
  unfold crsE at h
  by_cases h1:x.2.1<0∨(st.length:Int)<x.2.1
  ·rw [if_pos h1]at h;cases h
  ·rw [if_neg h1]at h
   by_cases h2:(x.1<0∨127<x.1)∨127<topOf st x
   ·rw [if_pos h2]at h;cases h
   ·rw [if_neg h2]at h
    cases k with
    | zero=>simp;omega
    | succ k=>simpa using ih h k (by simpa using hk)
end
section
open Go.RowKit
def rm_at(ok:Bool)(sg t:List UInt8):Bool:=ok && sg.isPrefixOf t
def rm_R (s:Int) (t:List UInt8):Int×List UInt8 :=
 if rm_at (okR s 3) (rR s 3) t then (3,t.drop (rR s 3).length) else if rm_at (okR s 2) (rR s 2) t then (2,t.drop (rR s 2).length) else if rm_at (okR s 1) (rR s 1) t then (1,t.drop (rR s 1).length) else (0,t)
def rm_G (s:Int) (t:List UInt8):Int×List UInt8 :=
 if rm_at (okG s 4) (rG s 4) t then (4,t.drop (rG s 4).length) else if rm_at (okG s 3) (rG s 3) t then (3,t.drop (rG s 3).length) else if rm_at (okG s 2) (rG s 2) t then (2,t.drop (rG s 2).length) else if rm_at (okG s 1) (rG s 1) t then (1,t.drop (rG s 1).length) else (0,t)
def rm_H (s:Int)(fp:Bool)(t:List UInt8):Option Int :=
 if t=[]then some 0 else
 match (List.range 15).find? fun n=>fp && (decide (s=1) && (t == 95::dig2 (n+1)))with
 | some n=>some ((n:Int)+1)
 | none=>if (fp && decide (s=2∨s=4) && (t == [42]))=true then some (-1)else none
def rm_mk (s:Int)(fp:Bool)(t:List UInt8):Option (Int×Int×Int):=(rm_H s fp (rm_G s (rm_R s t).2).2).map fun h=>((rm_R s t).1,(rm_G s (rm_R s t).2).1,h)
def rm_hold(s:Int)(h:Nat):Int:=if h=0 then 0 else if s=1 then(h:Int)else -1
theorem rm_all:((List.range 4).all fun s=>(List.range 4).all fun r=>(List.range 5).all fun g=>(List.range 16).all fun h=>[true,false].all fun fp =>
  !(okR ((s:Int)+1) r && okG ((s:Int)+1) g && okH ((s:Int)+1) h 15 && (fp|| h == 0))||
  rm_mk ((s:Int)+1) fp (rR ((s:Int)+1) r++rG ((s:Int)+1) g++pH ((s:Int)+1) h 15) == some ((r:Int),(g:Int),rm_hold ((s:Int)+1) h))=true:=by decide +kernel
theorem rm_back {s:Int} {r g h:Nat} {fp:Bool} (hs:1≤s∧s≤4)(hr:r≤3)(hg:g≤4)(hh:h≤15)(h1:okR s r=true)(h2:okG s g=true)(h3:okH s h 15=true)(hf:0<h→fp=true) :
  rm_mk s fp (rR s r++rG s g++pH s h 15)=some ((r:Int),(g:Int),rm_hold s h):=by
 obtain⟨k,hk⟩:=Int.eq_ofNat_of_zero_le (show 0≤s-1 by omega)
 obtain rfl:s=(k:Int)+1:=by omega
 have h0:=List.all_eq_true.1 (List.all_eq_true.1 (List.all_eq_true.1 (List.all_eq_true.1 (List.all_eq_true.1 rm_all k (List.mem_range.2 (by omega))) r (List.mem_range.2 (by omega))) g (List.mem_range.2 (by omega))) h (List.mem_range.2 (by omega))) fp (by cases fp<;>simp)
 rw [h1,h2,h3] at h0
 have h4:(fp|| h == 0)=true:=by
  by_cases e:h=0
  ·simp [e]
  ·rw [hf (by omega)];rfl
 rw [h4] at h0
 simpa using h0
theorem rm_at_of {ok:Bool} {sg t:List UInt8} (h:rm_at ok sg t=true):ok=true∧t=sg++t.drop sg.length:=by
 unfold rm_at at h
 simp only [Bool.and_eq_true,List.isPrefixOf_iff_prefix]at h
 obtain⟨h1,u,hu⟩:=h
 refine⟨h1,?_⟩
 rw [← hu,List.drop_left]
theorem rm_R_of(s:Int)(t:List UInt8):∃ r:Nat,r≤3∧(rm_R s t).1=(r:Int)∧okR s r=true∧t=rR s r++(rm_R s t).2:=by
 unfold rm_R
 split
 ·rename_i h;obtain⟨a,b⟩:=rm_at_of h;exact⟨3,by omega,rfl,a,b⟩
 ·split
  ·rename_i h;obtain⟨a,b⟩:=rm_at_of h;exact⟨2,by omega,rfl,a,b⟩
  ·split
   ·rename_i h;obtain⟨a,b⟩:=rm_at_of h;exact⟨1,by omega,rfl,a,b⟩
   ·exact⟨0,by omega,rfl,by simp [okR],by simp [rR]⟩
theorem rm_G_of(s:Int)(t:List UInt8):∃ g:Nat,g≤4∧(rm_G s t).1=(g:Int)∧okG s g=true∧t=rG s g++(rm_G s t).2:=by
 unfold rm_G
 split
 ·rename_i h;obtain⟨a,b⟩:=rm_at_of h;exact⟨4,by omega,rfl,a,b⟩
 ·split
  ·rename_i h;obtain⟨a,b⟩:=rm_at_of h;exact⟨3,by omega,rfl,a,b⟩
  ·split
   ·rename_i h;obtain⟨a,b⟩:=rm_at_of h;exact⟨2,by omega,rfl,a,b⟩
   ·split
    ·rename_i h;obtain⟨a,b⟩:=rm_at_of h;exact⟨1,by omega,rfl,a,b⟩
    ·exact⟨0,by omega,rfl,by simp [okG],by simp [rG]⟩
theorem rm_H_of {s:Int} {fp:Bool} {t:List UInt8} {x:Int} (hs:1≤s∧s≤4)(h:rm_H s fp t=some x):∃ n:Nat,n≤15∧okH s n 15=true∧(0<n→fp=true)∧t=pH s n 15∧x=rm_hold s n:=by
 unfold rm_H at h
 split at h
 ·rename_i e
  cases h
  exact⟨0,by omega,by simp [okH],fun k=>absurd k (by omega),by simp [e,pH],rfl⟩
 ·split at h
  ·rename_i n hn
   have h1:=List.find?_some hn
   have h2:=List.mem_range.1 (List.mem_of_find?_eq_some hn)
   cases h
   simp only [Bool.and_eq_true,decide_eq_true_eq,beq_iff_eq]at h1
   obtain⟨a,rfl,b⟩:=h1
   refine⟨n+1,by omega,?_,fun _=>a,?_,?_⟩
   ·simp [okH,rH]
   ·rw [b];simp [pH,rH];omega
   ·simp [rm_hold]
  ·split at h
   ·rename_i h1
    cases h
    simp only [Bool.and_eq_true,decide_eq_true_eq,beq_iff_eq]at h1
    obtain⟨⟨a,b⟩,c⟩:=h1
    refine⟨15,by omega,?_,fun _=>a,?_,?_⟩
    ·rcases b with rfl|rfl<;>decide
    ·rcases b with rfl|rfl<;>exact c
    ·rcases b with rfl|rfl<;>rfl
   ·cases h
theorem rm_of {s:Int} {fp:Bool} {t:List UInt8} {x:Int×Int×Int} (hs:1≤s∧s≤4)(h:rm_mk s fp t=some x) :
  ∃ r g n:Nat,r≤3∧g≤4∧n≤15∧okR s r=true∧okG s g=true∧okH s n 15=true∧(0<n→fp=true)∧t=rR s r++rG s g++pH s n 15∧x=((r:Int),(g:Int),rm_hold s n):=by
 unfold rm_mk at h
 obtain⟨y,hy,rfl⟩:=Option.map_eq_some_iff.1 h
 obtain⟨r,r1,r2,r3,r4⟩:=rm_R_of s t
 obtain⟨g,g1,g2,g3,g4⟩:=rm_G_of s (rm_R s t).2
 obtain⟨n,n1,n2,n3,n4,n5⟩:=rm_H_of hs hy
 refine⟨r,g,n,r1,g1,n1,r3,g3,n2,n3,?_,by rw [r2,g2,n5]⟩
 rw [← n4,List.append_assoc,← g4,← r4]
end
section
open Go.RowKit
attribute [local go_sem]mk_bs bs_size bs_toList bs_append bs_extract
attribute [local simp]run_cut run_cut_to run_cut_from run_add_bs
theorem psymbol_any (s c f:Int)(w:World) :
  Calls Tryz.prog 34 #[.int .u8 s,.agg #[.int .i64 c,.int .i64 f]] w (Ret (.tuple #[.string (bs (symTxt s c f)),.int .i64 (symErr s c f)]) w):=by
 by_cases hs:1≤s∧s≤4
 ·have h4:s=1∨s=2∨s=3∨s=4:=by omega
  by_cases h:(c < 1∨14 < c)∨(f < 0∨18 < f)
  ·rcases h4 with rfl|rfl|rfl|rfl
   ·exact psymbol_bad_1 c f w h
   ·exact psymbol_bad_2 c f w h
   ·exact psymbol_bad_3 c f w h
   ·exact psymbol_bad_4 c f w h
  ·have hc:1≤c∧c≤14:=by omega
   have hf:0≤f∧f≤18:=by omega
   rcases h4 with rfl|rfl|rfl|rfl
   ·exact psymbol_ok_1 c f w hc hf
   ·exact psymbol_ok_2 c f w hc hf
   ·exact psymbol_ok_3 c f w hc hf
   ·exact psymbol_ok_4 c f w hc hf
 ·have e0:symErr s c f=30:=if_pos hs
  have e1:symTxt s c f=[]:=by unfold symTxt;rw [e0,if_neg (by decide)]
  rw [e0,e1]
  have hpl:∀ w:World,Calls Tryz.prog 84 #[.int .u8 s,.int .i64 c,.int .i64 f] w fun e w'=>e=.returned (.tuple #[.nilIface,.int .i64 30])∧w=w':=by
   intro w
   have hs':s < 1∨4 < s:=by omega
   clear hs
   go_enter Tryz.func84,Tryz.ntmps84
   go_wp2_with (go_at_call 50;refine (of_bad _ _ hs').mono ?_;rintro e w'⟨rfl,rfl⟩)
   go_ret2
   exact⟨rfl,rfl⟩
  have H:=Lib.hid hpl
  clear hpl hs e0 e1
  go_enter Tryz.func34,Tryz.ntmps34
  go_wp2_with (go_at_call 84;refine (H.out _).mono ?_;rintro e w'⟨rfl,rfl⟩)
  go_ret2
  exact Ret.mk' rfl zqb
theorem place_any (s crs:Int) (l:List UInt8) (w:World) :
  Calls Tryz.prog 35 #[.int .u8 s,.int .i64 crs,.string (bs l)] w (Ret (placeV s crs l) w):=by
 by_cases hs:1≤s∧s≤4
 ·have h4:s=1∨s=2∨s=3∨s=4:=by omega
  rcases h4 with rfl|rfl|rfl|rfl
  ·by_cases h:spotErr 1 crs=0
   ·exact place_ok_1 crs l w h
   ·exact place_bad_1 crs l w h
  ·by_cases h:spotErr 2 crs=0
   ·exact place_ok_2 crs l w h
   ·exact place_bad_2 crs l w h
  ·by_cases h:spotErr 3 crs=0
   ·exact place_ok_3 crs l w h
   ·exact place_bad_3 crs l w h
  ·by_cases h:spotErr 4 crs=0
   ·exact place_ok_4 crs l w h
   ·exact place_bad_4 crs l w h
 ·have e0:spotErr s crs=30:=if_pos hs
  have HR:=Lib.hid (placeOf_bad (l:=l) (show spotErr s crs≠0 from by rw [e0];decide))
  rw [e0] at HR
  have hs':s < 1∨4 < s:=by omega
  have hst:∀ w:World,Calls Tryz.prog 85 #[.int .u8 s,.int .i64 crs] w fun e w'=>e=.returned (.tuple #[.nilIface,.int .i64 30])∧w=w':=by
   intro w
   clear hs e0 HR
   go_enter Tryz.func85,Tryz.ntmps85
   go_wp2_with (go_at_call 50;refine (of_bad _ _ hs').mono ?_;rintro e w' ⟨rfl,rfl⟩)
   go_ret2
   exact ⟨rfl,rfl⟩
  have HC:=Lib.hid hst
  clear hs e0 hst
  go_enter Tryz.func35,Tryz.ntmps35
  go_wp2_with (go_at_call 85;refine (HC.out _).mono ?_;rintro e w' ⟨rfl,rfl⟩)
  go_returns
  exact Ret.mk' (by unfold placeV;rw [HR.out]) zqb
end
section
def tmM(s:Int)(l:List UInt8)(v i:Nat):Bool:=(v != 0|| i == 0) && (tOk s v i && tW v i == l)
def scanT (m:Nat→Nat→Bool)(v n:Nat):Option (Nat×Nat):=(List.range' v n).findSome? fun v=>((List.range 3).find? (m v)).map fun i=>(v,i)
theorem scanT_yes (m:Nat→Nat→Bool)(v n i:Nat)(h:(List.range 3).find? (m v)=some i):scanT m v (n+1)=some (v,i):=by
 simp only [scanT,List.range'_succ,List.findSome?_cons,h,Option.map_some]
theorem scanT_no (m:Nat→Nat→Bool)(v n:Nat)(h:(List.range 3).find? (m v)=none):scanT m v (n+1)=scanT m (v+1) n:=by
 simp only [scanT,List.range'_succ,List.findSome?_cons,h,Option.map_none]
theorem find3(m:Nat→Bool):(List.range 3).find? m=if m 0=true then some 0 else if m 1=true then some 1 else if m 2=true then some 2 else none:=by
 have:List.range 3=[0,1,2]:=rfl
 rw [this,List.find?_cons,List.find?_cons,List.find?_cons]
 cases m 0<;>cases m 1<;>cases m 2<;>rfl
open Go in
def ptV (o:Option (Nat×Nat)):Value :=
 match o with
 | some (v,i)=>.tuple #[.agg #[.int .i64 v,.bool (sgD i),.bool (sgT i)],.int .i64 0]
 | none=>.tuple #[.agg #[.int .i64 0,.bool false,.bool false],.int .i64 4]
def refSigns:List (Nat×Nat):=[(1,1),(1,0),(2,1),(1,2),(2,0),(3,1),(2,2),(3,0),(4,1),(3,2),(4,0),(5,1),(4,2),(5,0),(6,1),(5,2),(6,0),(7,1),(6,2),(7,0),(7,2),(0,0)]
def refM(s:Int)(l:List UInt8)(p:Nat×Nat):Bool:=!l.isEmpty && rW s p.1 p.2 == l
def progSigns:List (Nat×Nat):=(List.range 8).flatMap fun v=>(List.range 3).map fun i=>(v,i)
theorem find_unique {α:Type} (L L':List α)(p p':α→Bool)(h1:∀ x∈L,p x=true→x∈L'∧p' x=true)(h2:∀ x∈L',p' x=true→x∈L∧p x=true)
  (hu:∀ x∈L',∀ y∈L',p' x=true→p' y=true→x=y):L.find? p=L'.find? p':=by
 cases hL:L.find? p with
 | none =>
  rw [List.find?_eq_none] at hL
  symm
  rw [List.find?_eq_none]
  intro x hx hp
  exact hL x (h2 x hx hp).1 (h2 x hx hp).2
 | some x =>
  have hm:=List.mem_of_find?_eq_some hL
  have hp:=List.find?_some hL
  obtain⟨a,b⟩:=h1 x hm hp
  cases hL':L'.find? p' with
  | none =>
   rw [List.find?_eq_none] at hL'
   exact absurd b (hL' x a)
  | some y =>
   rw [hu x a y (List.mem_of_find?_eq_some hL') b (List.find?_some hL')]
theorem signs_words:(refSigns.all fun x=>refSigns.all fun y=>!(tW x.1 x.2 == tW y.1 y.2)|| x == y)=true:=by decide +kernel
theorem signs_sub:(refSigns.all fun x=>progSigns.contains x && (x.1 != 0|| x.2 == 0))=true:=by decide +kernel
theorem signs_sup:(progSigns.all fun x=>!(x.1 != 0|| x.2 == 0)|| refSigns.contains x)=true:=by decide +kernel
theorem signs_v:(refSigns.all fun x=>decide (x.1≤7))=true:=by decide +kernel
theorem scanT_find (m:Nat→Nat→Bool):scanT m 0 8=progSigns.find? fun p=>m p.1 p.2:=by
 unfold scanT progSigns
 have:∀ l:List Nat,(l.findSome? fun v=>((List.range 3).find? (m v)).map fun i=>(v,i))=(l.flatMap fun v=>(List.range 3).map fun i=>(v,i)).find? fun p=>m p.1 p.2:=by
  intro l
  induction l with
  | nil=>rfl
  | cons v r ih =>
   rw [List.findSome?_cons,List.flatMap_cons,List.find?_append,ih,List.find?_map]
   have e:((fun p:Nat×Nat=>m p.1 p.2) ∘ fun i=>(v,i))=m v:=rfl
   rw [e]
   cases (List.range 3).find? (m v)<;>rfl
 rw [← List.range_eq_range']
 exact this _
theorem parse_law (s:Int) (l:List UInt8):scanT (tmM s l) 0 8=refSigns.find? (refM s l):=by
 rw [scanT_find]
 have hw:=signs_words
 have hsub:=signs_sub
 have hsup:=signs_sup
 have hv:=signs_v
 rw [List.all_eq_true] at hw hsub hsup hv
 refine find_unique _ _ _ _ ?_ ?_ ?_
 ·intro x hx hp
  simp only [tmM,Bool.and_eq_true] at hp
  have hx':=hsup x hx
  rw [hp.1] at hx'
  have hin:x∈refSigns:=by simpa using hx'
  refine ⟨hin,?_⟩
  have hl:tW x.1 x.2=l:=by simpa using hp.2.2
  have hne:=tW_ne x.1 x.2 ⟨by omega,by have:=of_decide_eq_true (hv x hin);omega⟩
  rw [hl] at hne
  have he:l.isEmpty=false:=by simpa using hne
  unfold refM rW
  rw [if_pos hp.2.1,he]
  simpa using hp.2.2
 ·intro x hx hp
  simp only [refM,Bool.and_eq_true] at hp
  have hx':=hsub x hx
  simp only [Bool.and_eq_true] at hx'
  refine ⟨by simpa using hx'.1,?_⟩
  have he:rW s x.1 x.2=l:=by simpa using hp.2
  have hne:l≠[]:=by have:=hp.1;intro h0;rw [h0] at this;simp at this
  have hok:tOk s x.1 x.2=true:=by
   cases h:tOk s x.1 x.2 with
   | true=>rfl
   | false=>unfold rW at he;rw [h] at he;exact absurd he.symm hne
  have ht:tW x.1 x.2=l:=by unfold rW at he;rw [if_pos hok] at he;exact he
  unfold tmM
  rw [hx'.2,hok,ht]
  simp
 ·intro x hx y hy hpx hpy
  have f:∀ z,refM s l z=true→tW z.1 z.2=l:=by
   intro z hz
   simp only [refM,Bool.and_eq_true] at hz
   have he:rW s z.1 z.2=l:=by simpa using hz.2
   have hne:l≠[]:=by have:=hz.1;intro h0;rw [h0] at this;simp at this
   unfold rW at he
   split at he
   ·exact he
   ·exact absurd he.symm hne
  have h1:=hw x hx
  rw [List.all_eq_true] at h1
  have h2:=h1 y hy
  rw [f x hpx,f y hpy] at h2
  simpa using h2
end
section
open Go.RowKit
structure StpOk(p:Pce)(k:Nat)(x:Stp):Prop where
 crs:1≤x.1∧x.1≤p.cs.length
 c14:x.1≤14
 fret:0≤x.2.1∧x.2.1≤fretsOf p.cs x.1
 f18:x.2.1≤18
 hold:0≤x.2.2.2.2∧x.2.2.2.2≤longestN p.evs k x.1
 h0:0<x.2.2.2.2→x.2.1≠0
structure EvOk(p:Pce)(k:Nat)(e:Ev):Prop where
 sg:sgOk e.val e.dot e.three=true
 first:¬ ((k:Int)=0∧e.val=0)
 tie:e.tie=true→e.stops=[]∧0<k
 stops:∀ x∈e.stops,StpOk p k x
 asc:e.stops.Pairwise fun x y=>x.1<y.1
end
end Go.Proofs.YthehkchjdkdbiaaGreatDoor
