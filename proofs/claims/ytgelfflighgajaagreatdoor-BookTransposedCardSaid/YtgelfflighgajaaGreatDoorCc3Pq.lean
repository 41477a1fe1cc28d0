/- The concordances of a book: groups of the program; its rows own slices, as (0, .rwn ..) says. -/
import Derived.Test.YtgelfflighgajaaGreatDoorCcQPq
set_option maxHeartbeats 8000000
set_option maxRecDepth 100000
set_option linter.unusedVariables false
set_option linter.unusedSimpArgs false
namespace Go.Proofs.YtgelfflighgajaaGreatDoor
section
open Go.RowKit
theorem z3o {p:Prop} (h:p:=by omega):p:=h
theorem z3k {α:Sort _} {a b:α} (h:a = b:=by kernel_rfl):a = b:=h
theorem z3i {z:Int} (h:I64 z:=by unfold I64;omega):I64 z:=h
theorem z3s {p:Prop} (h:p:=by first|omega|(simp;done)|(simp;omega)):p:=h
def tame2:Op→Bool
 | .move _=>true
 | .build _ _=>true
 | .buildSlice _ _ _=>true
 | .call c=>match c.callee with
  | .builtin .append=>true
  | _=>false
 | .assign _=>true
 | .alloc _=>true
 | .box _ _=>true
 | .load _ _=>true
 | .store _ _ _=>true
 | .fieldAddr _ _ _=>true
 | .field _ _ _=>true
 | .indexAddr _ _ _=>true
 | .index _ _ _=>true
 | _=>false
section
variable {P:Program} {o:Oper} {a:Act} {w:World} {K K1 K2:Act→World→Prop} {Q:Exit→Act→World→Prop}
theorem tame_app {ev:Operand→Value} {c:Call} {T:TypeId} (hc:c.callee=.builtin .append)(n:Next)(w':World)(h:(do let d ← resolve ev c T;invoke d.target d.args:Sem Next).run P w=.ok n w'):∃ x,n=.value x:=by
 unfold resolve at h
 simp only [hc,Sem.run_bind,Sem.run_pure,Result.andThen_ok,invoke,builtin]at h
 cases hs:(Builtin.append_ c.argTypes T (c.args.map ev)).run P w with
 | ok x w1=>rw [hs]at h;simp only [Result.andThen]at h;cases h;exact⟨x,rfl⟩
 | halt x w1=>rw [hs]at h;simp only [Result.andThen]at h;cases h
theorem tame_no2 {ev:Operand→Value} (ht:tame2 o.op=true) (n:Next) (w':World) (h:(execOp ev o).run P w=.ok n w'):(∃ x,n=.value x)∨n=.skip:=by
 unfold execOp at h
 cases ho:o.op<;>simp only [ho,tame2]at ht h<;>first
  | (cases ht;done)
  |exact .inl (run_v _ _ _ h)
  |exact .inr (run_u _ _ _ h)
  | (refine .inl (tame_app ?_ n w' h);revert ht;split<;>first|(intro _;assumption)|(intro ht;cases ht))
  | (cases h;exact .inl ⟨_,rfl⟩)
theorem wp_and2 (ht:tame2 o.op=true)(h1:o.wp P a w K1 Q)(h2:o.wp P a w K2 Q):o.wp P a w (fun a w=>K1 a w∧K2 a w) Q:=by
 unfold Oper.wp at *
 cases hr:(execOp a.eval o).run P w with
 | ok n w' =>
  rw [hr] at h1 h2
  rcases tame_no2 ht n w' hr with⟨x,rfl⟩|rfl
  ·exact⟨h1,h2⟩
  ·exact⟨h1,h2⟩
 | halt x w'=>rw [hr] at h1 h2;cases x<;>simp only [Oper.upon] at h1 h2 ⊢<;>exact h1
end
structure Laid2 (ops A:Array Oper)(π ρ:Nat→Nat)(i j:Nat):Prop where
 sz:A.size=ops.size
 lt:∀ p,p<ops.size→π p<ops.size
 inv:∀ p,p<ops.size→ρ (π p)=p
 ltr:∀ q,q<ops.size→ρ q<ops.size
 inr:∀ q,q<ops.size→π (ρ q)=q
 hi:i<ops.size
 hj:j<ops.size
 op:∀ (p:Nat)(o:Oper),ops[p]?=some o→∃ X:Array Edge,A[π p]?=some { o with after:=X }∧(∀ e∈X,Region.binds .any e=true→(∃ e'∈o.after,Region.binds .any e'=true∧e.on=π e'.on)∨(p=j∧e.on=π i)) ∧
  (∀ e'∈o.after,Region.binds .any e'=true→∃ e∈X,Region.binds .any e=true∧e.on=π e'.on)
 tm:∀ (p:Nat)(o:Oper),ops[p]?=some o→tame2 o.op=true∧o.guard=none∧∀ e∈o.after,e.on<ops.size
structure Agr2 (n:Nat)(π:Nat→Nat)(L LA:Array Bool):Prop where
 s1:L.size=n
 s2:LA.size=n
 at_:∀ p,p<n→LA.getD (π p) false=L.getD p false
section
variable {P:Program} {ops A B:Array Oper} {π ρ π' ρ':Nat→Nat} {i j k:Nat} {L LA LB:Array Bool} {a:Act} {w:World} {K K1 K2:Act→World→Prop} {Q:Exit→Act→World→Prop}
theorem Agr2.put (hl:Laid2 ops A π ρ i j) (h:Agr2 ops.size π L LA) (hk:k<ops.size):Agr2 ops.size π (L.setIfInBounds k true) (LA.setIfInBounds (π k) true):=by
 refine ⟨by simp [h.s1],by simp [h.s2],fun p hp=>?_⟩
 by_cases e:k=p
 ·subst e
  have h1:k<L.size:=by rw [h.s1];exact hk
  have h2:π k<LA.size:=by rw [h.s2];exact hl.lt k hk
  simp [Array.getD_eq_getD_getElem?,h1,h2]
 ·have e2:π k≠π p:=fun x=>e (by rw [← hl.inv k hk,x,hl.inv p hp])
  have:=h.at_ p hp
  simp only [Array.getD_eq_getD_getElem?] at this ⊢
  rw [Array.getElem?_setIfInBounds_ne e,Array.getElem?_setIfInBounds_ne e2]
  exact this
theorem ready_to2 (hl:Laid2 ops A π ρ i j) (h:Agr2 ops.size π L LA) (hij:k=j→L.getD i false=true) (hk:k∈Region.ready .any ops L):π k∈Region.ready .any A LA:=by
 have hlt:=ready_lt hk
 obtain ⟨h1,o,ho,h2⟩:=mem_ready.1 hk
 obtain ⟨X,hX,hX1,_⟩:=hl.op k o ho
 refine mem_ready.2 ⟨?_,_,hX,fun e he hb=>?_⟩
 ·rw [getD_tf (by rw [h.s2];exact hl.lt k hlt),h.at_ k hlt,← getD_tf (by rw [h.s1];exact hlt)];exact h1
 ·rcases hX1 e he hb with⟨e',he',hb',heq⟩|⟨rfl,heq⟩
  ·rw [heq,h.at_ _ ((hl.tm k o ho).2.2 e' he')];exact h2 e' he' hb'
  ·rw [heq,h.at_ _ hl.hi];exact hij rfl
theorem ready_of2 (hl:Laid2 ops A π ρ i j) (h:Agr2 ops.size π L LA) {q:Nat} (hq:q∈Region.ready .any A LA):ρ q∈Region.ready .any ops L:=by
 have hlt:=ready_lt hq
 rw [hl.sz] at hlt
 obtain ⟨h1,o',ho',h2⟩:=mem_ready.1 hq
 have hr:=hl.ltr q hlt
 have ho:ops[ρ q]?=some ops[ρ q]:=Array.getElem?_eq_getElem hr
 obtain ⟨X,hX,_,hX2⟩:=hl.op (ρ q) _ ho
 rw [hl.inr q hlt,ho'] at hX
 cases hX
 refine mem_ready.2 ⟨?_,_,ho,fun e' he' hb'=>?_⟩
 ·rw [getD_tf (by rw [h.s1];exact hr),← h.at_ _ hr,hl.inr q hlt,← getD_tf (by rw [h.s2];exact hlt)];exact h1
 ·obtain ⟨e,he,hb,heq⟩:=hX2 e' he' hb'
  rw [← h.at_ _ ((hl.tm _ _ ho).2.2 e' he'),← heq]
  exact h2 e he hb
theorem ready_nil2(hl:Laid2 ops A π ρ i j)(h:Agr2 ops.size π L LA)(hr:Region.ready .any ops L=[]):Region.ready .any A LA=[] :=
 List.eq_nil_iff_forall_not_mem.2 fun q hq=>by have:=ready_of2 hl h hq;rw [hr]at this;cases this
theorem wpOp_to2 (hl:Laid2 ops A π ρ i j)(hk:k<ops.size)(h:wpOp P A Q (π k) K a w):wpOp P ops Q k K a w:=by
 have ho:ops[k]?=some ops[k]:=Array.getElem?_eq_getElem hk
 obtain⟨X,hX,_⟩:=hl.op k _ ho
 have hg:=(hl.tm k _ ho).2.1
 unfold wpOp at h ⊢
 rw [hX] at h
 rw [ho]
 simp only [Region.wanted,hg,if_true] at h ⊢
 exact h
theorem wpOp_and2 (hk:k<ops.size)(ht:tame2 ops[k].op=true)(hg:ops[k].guard=none)(h1:wpOp P ops Q k K1 a w)(h2:wpOp P ops Q k K2 a w):wpOp P ops Q k (fun a w=>K1 a w∧K2 a w) a w:=by
 have ho:ops[k]?=some ops[k]:=Array.getElem?_eq_getElem hk
 unfold wpOp at h1 h2 ⊢
 rw [ho] at h1 h2 ⊢
 simp only [Region.wanted,hg,if_true] at h1 h2 ⊢
 rcases h1 with h1|h1
 ·rcases h2 with h2|h2
  ·exact .inl (wp_and2 ht h1 h2)
  ·exact .inr h2
 ·exact .inr h1
theorem wpAny_one2 (hl:Laid2 ops A π ρ i j):∀ (fuel:Nat) (L LA:Array Bool) (a:Act) (w:World),Agr2 ops.size π L LA→(L.getD i false=true∨L.getD j false=true)→wpAny P .any A Q fuel LA a w→wpAny P .any ops Q fuel L a w:=by
 have cond:∀ {L:Array Bool} {k:Nat},L.size=ops.size→(L.getD i false=true∨L.getD j false=true)→k∈Region.ready .any ops L→k=j→L.getD i false=true:=by
  intro L k hs h hk e
  subst e
  rcases h with h|h
  ·exact h
  ·have:=(mem_ready.1 hk).1
   rw [getD_tf (by rw [hs];exact hl.hj),h] at this;cases this
 intro fuel
 induction fuel with
 | zero =>
  intro L LA a w h hor hw
  refine ⟨List.eq_nil_iff_forall_not_mem.2 fun k hk=>?_,hw.2⟩
  have:=ready_to2 hl h (cond h.s1 hor hk) hk
  rw [hw.1] at this;cases this
 | succ fuel ih =>
  intro L LA a w h hor hw
  refine ⟨fun hr=>hw.1 (ready_nil2 hl h hr),fun k hk=>?_⟩
  have hlt:=ready_lt hk
  refine wpOp_mono (fun a' w' hw'=>ih _ _ a' w' (h.put hl hlt) ?_ hw') (wpOp_to2 hl hlt (hw.2 _ (ready_to2 hl h (cond h.s1 hor hk) hk)))
  have mono:∀ q,L.getD q false=true→(L.setIfInBounds k true).getD q false=true:=fun q hq=>by
   by_cases e:k=q
   ·subst e;simp [Array.getD_eq_getD_getElem?,show k<L.size by rw [h.s1];exact hlt]
   ·simp only [Array.getD_eq_getD_getElem?] at hq ⊢
    rw [Array.getElem?_setIfInBounds_ne e];exact hq
  exact hor.imp (mono _) (mono _)
theorem wpAny_both2 (hA:Laid2 ops A π ρ i j) (hB:Laid2 ops B π' ρ' j i) (hne:i≠j):∀ (fuel:Nat) (L LA LB:Array Bool) (a:Act) (w:World),Agr2 ops.size π L LA→Agr2 ops.size π' L LB→L.getD i false=false→L.getD j false=false →
  wpAny P .any A Q fuel LA a w→wpAny P .any B Q fuel LB a w→wpAny P .any ops Q fuel L a w:=by
 intro fuel
 induction fuel with
 | zero =>
  intro L LA LB a w ha hb hi hj wa wb
  refine ⟨List.eq_nil_iff_forall_not_mem.2 fun k hk=>?_,wa.2⟩
  by_cases e:k=j
  ·have:=ready_to2 hB hb (fun e2=>absurd (e2.symm.trans e) hne) hk
   rw [wb.1] at this;cases this
  ·have:=ready_to2 hA ha (fun e2=>absurd e2 e) hk
   rw [wa.1] at this;cases this
 | succ fuel ih =>
  intro L LA LB a w ha hb hi hj wa wb
  refine ⟨fun hr=>wa.1 (ready_nil2 hA ha hr),fun k hk=>?_⟩
  have hlt:=ready_lt hk
  have hs:(L.setIfInBounds k true).getD k false=true:=by simp [Array.getD_eq_getD_getElem?,show k<L.size by rw [ha.s1];exact hlt]
  have hso:∀ q,k≠q→(L.setIfInBounds k true).getD q false=L.getD q false:=fun q e=>by
   simp only [Array.getD_eq_getD_getElem?]
   rw [Array.getElem?_setIfInBounds_ne e]
  by_cases e1:k=i
  ·subst e1
   exact wpOp_mono (fun a' w' hw'=>wpAny_one2 hA fuel _ _ a' w' (ha.put hA hlt) (.inl hs) hw') (wpOp_to2 hA hlt (wa.2 _ (ready_to2 hA ha (fun e=>absurd e hne) hk)))
  ·by_cases e2:k=j
   ·subst e2
    exact wpOp_mono (fun a' w' hw'=>wpAny_one2 hB fuel _ _ a' w' (hb.put hB hlt) (.inl hs) hw') (wpOp_to2 hB hlt (wb.2 _ (ready_to2 hB hb (fun e=>absurd e e1) hk)))
   ·have t:=hA.tm k _ (Array.getElem?_eq_getElem hlt)
    refine wpOp_mono (fun a' w' hw'=>ih _ _ _ a' w' (ha.put hA hlt) (hb.put hB hlt) ((hso i e1).trans hi) ((hso j e2).trans hj) hw'.1 hw'.2)
     (wpOp_and2 hlt t.1 t.2.1 (wpOp_to2 hA hlt (wa.2 _ (ready_to2 hA ha (fun e=>absurd e e2) hk))) (wpOp_to2 hB hlt (wb.2 _ (ready_to2 hB hb (fun e=>absurd e e1) hk))))
theorem WA.either2 {C:Cx} {σ:St} {Q:Exit→St→Prop} (hA:Laid2 ops A π ρ i j) (hB:Laid2 ops B π' ρ' j i) (hne:i≠j) (h1:WA P C A σ Q) (h2:WA P C B σ Q):WA P C ops σ Q:=by
 intro G a w ok
 have r:∀ (n p:Nat),(Array.replicate n false).getD p false=false:=fun n p=>by
  simp only [Array.getD_eq_getD_getElem?,Array.getElem?_replicate];split<;>rfl
 have ag:∀ (π:Nat→Nat),Agr2 ops.size π (Array.replicate ops.size false) (Array.replicate ops.size false):=fun π=>⟨by simp,by simp,fun p _=>by rw [r,r]⟩
 have x:=h1 G a w ok
 have y:=h2 G a w ok
 rw [hA.sz] at x
 rw [hB.sz] at y
 exact wpAny_both2 hA hB hne _ _ _ _ a _ (ag π) (ag π') (r _ _) (r _ _) x y
end
def reoB2 (L:List Oper)(π ρ:List Nat)(i j:Nat):Bool :=
 (List.range L.length).all (fun p=>Nat.blt (π.getD p 0) L.length && Nat.beq (ρ.getD (π.getD p 0) 0) p && Nat.blt (ρ.getD p 0) L.length && Nat.beq (π.getD (ρ.getD p 0) 0) p) && Nat.blt i L.length && Nat.blt j L.length &&
  L.all (fun o=>tame2 o.op && o.guard.isNone && o.after.toList.all fun e=>Nat.blt e.on L.length)
theorem laid_reo2 {L:List Oper} {π ρ:List Nat} {i j:Nat} (h:reoB2 L π ρ i j=true):Laid2 L.toArray (reo L π ρ i j).toArray (fun p=>π.getD p 0) (fun p=>ρ.getD p 0) i j:=by
 unfold reoB2 at h
 simp only [Bool.and_eq_true,List.all_eq_true,List.mem_range] at h
 obtain ⟨⟨⟨hp,hi⟩,hj⟩,ho⟩:=h
 refine ⟨by simp [reo],fun p hq=>?_,fun p hq=>?_,fun p hq=>?_,fun p hq=>?_,by simpa using of_blt hi,by simpa using of_blt hj,fun p o hpo=>?_,fun p o hpo=>?_⟩
 ·simpa using of_blt (hp p (by simpa using hq)).1.1.1
 ·exact Nat.eq_of_beq_eq_true (hp p (by simpa using hq)).1.1.2
 ·simpa using of_blt (hp p (by simpa using hq)).1.2
 ·exact Nat.eq_of_beq_eq_true (hp p (by simpa using hq)).2
 ·have hpo':L[p]?=some o:=by simpa using hpo
  have hlt:p<L.length:=(List.getElem?_eq_some_iff.1 hpo').1
  have h1:=(hp p hlt).1.1
  have hg:L.getD p default=o:=by rw [List.getD_eq_getElem?_getD,hpo'];rfl
  refine ⟨(aft π i j p o).toArray,?_,fun e he hb=>?_,fun e' he' hb'=>?_⟩
  ·have hr:ρ.getD (π.getD p 0) 0=p:=Nat.eq_of_beq_eq_true h1.2
   have h3:(reo L π ρ i j).toArray[π.getD p 0]?=some { L.getD (ρ.getD (π.getD p 0) 0) default with after:=(aft π i j (ρ.getD (π.getD p 0) 0) (L.getD (ρ.getD (π.getD p 0) 0) default)).toArray }:=by
    rw [List.getElem?_toArray]
    unfold reo
    rw [List.getElem?_map,List.getElem?_range (of_blt h1.1)]
    rfl
   rw [h3,hr,hg]
  ·have he1:=List.mem_toArray.1 he
   rcases List.mem_append.1 he1 with h4|h4
   ·obtain ⟨e',h5,rfl⟩:=List.mem_map.1 h4
    obtain ⟨h6,h7⟩:=List.mem_filter.1 h5
    exact .inl ⟨e',by simpa using h6,h7,rfl⟩
   ·cases hb2:Nat.beq p j with
    | false=>rw [hb2] at h4;cases h4
    | true =>
     rw [hb2] at h4
     have h5:e∈[(⟨π.getD i 0,.data⟩:Edge)]:=h4
     rw [List.mem_singleton] at h5
     subst h5
     exact .inr ⟨Nat.eq_of_beq_eq_true hb2,rfl⟩
  ·refine ⟨⟨π.getD e'.on 0,.data⟩,List.mem_toArray.2 (List.mem_append.2 (.inl (List.mem_map.2 ⟨e',List.mem_filter.2 ⟨by simpa using he',hb'⟩,rfl⟩))),rfl,rfl⟩
 ·have hpo':L[p]?=some o:=by simpa using hpo
  have:=ho o (List.mem_of_getElem? hpo')
  refine ⟨this.1.1,?_,fun e he=>?_⟩
  ·cases hgd:o.guard with
   | none=>rfl
   | some g=>have h8:=this.1.2;rw [hgd] at h8;cases h8
  ·simpa using of_blt (this.2 e (by simpa using he))
section
variable {P:Program} {C:Cx} {σ:St} {Q:Exit→St→Prop}
theorem WA.eitherL2 {L:List Oper} (π ρ π' ρ':List Nat) (i j:Nat) (hA:reoB2 L π ρ i j=true) (hB:reoB2 L π' ρ' j i=true) (hne:Nat.beq i j=false) (h1:WA P C (reo L π ρ i j).toArray σ Q) (h2:WA P C (reo L π' ρ' j i).toArray σ Q):WA P C L.toArray σ Q :=
 WA.either2 (laid_reo2 hA) (laid_reo2 hB) (fun e=>by rw [e,Nat.beq_refl] at hne;cases hne) h1 h2
end
end
section
open Go.RowKit
theorem con1_FS (r:Rw) (n:Int):Ctr Tryz.prog 100 [.ag (eRw r),.pr [.sc (.int .i64 n)]] (.sc (.bool (!lng n r))):=by
 obtain ⟨a,l,hl⟩:=r
 have e:(!lng n ⟨a,l,hl⟩)=decide ((l.length:Int) < n):=by
  by_cases h:(l.length:Int) < n
  ·rw [decide_eq_true h,show lng n ⟨a,l,hl⟩=false from decide_eq_false (by show ¬ n≤(l.length:Int);omega)];rfl
  ·rw [decide_eq_false h,show lng n ⟨a,l,hl⟩=true from decide_eq_true (by show n≤(l.length:Int);omega)];rfl
 rw [e]
 show Ctr Tryz.prog 100 [.ag [.sc (.int .i64 a),.ls 1 (l.map eInt)],.pr [.sc (.int .i64 n)]] _
 refine Ctr.intro Tryz.func100 rfl Tryz.ntmps100 (Nat.le_of_ble_eq_true rfl) (bd_all rfl) fun w0 F0=>?_;dsimp only [St.init,number,Nat.reduceAdd]
 repeat (first|refine W.go rfl ?_|refine WL.ev rfl ?_|refine WL.len rfl rfl zql ?_)
 refine (?_:W _ _ _ _ _)
 exact W.ret (fin1 rfl rfl rfl rfl)
theorem idxR_FS (l:List Rw) (n:Int) (hl:l.length≤100000):Ctr Tryz.prog 157 [.ls 2 (l.map eRw),.fn 100 [.pr [.sc (.int .i64 n)]]] (.sc (.int .i64 (if dlN (lng n) l < l.length then (dlN (lng n) l:Int) else -1))):=by
 have hRl:(l.map eRw).length=l.length:=List.length_map _
 refine Ctr.intro Tryz.func157 rfl Tryz.ntmps157 (Nat.le_of_ble_eq_true rfl) (bd_all rfl) fun w0 F0=>?_;dsimp only [St.init,number,Nat.reduceAdd]
 repeat (first|refine W.go rfl ?_|refine WL.ev rfl ?_|refine WL.len rfl rfl zql ?_)
 refine (?_:W _ _ _ _ _)
 refine W.loop (fun k:Nat=>k≤l.length∧∀ i (hi:i < k) (h:i < l.length),lng n l[i]=true) (fun k=>⟨[(0,.ls 2 (l.map eRw)),(1,.fn 100 [.pr [.sc (.int .i64 n)]]),(7,.sc (.int .i64 l.length)),(8,.sc (.int .i64 k))],[],0⟩) (fun k=>l.length - k) 0 ⟨by omega,fun i hi=>by omega⟩ (zqt id) fun k hk=>?_
 obtain ⟨hk,hno⟩:=hk
 by_cases hlt:k < l.length
 ·have hat:(l.map eRw)[((k:Nat):Int).toNat]?=some (eRw l[k]):=map_at hlt
  repeat (first|refine W.gob rfl ?_|refine WL.nil ?_|refine WL.bt rfl rfl rfl z3o ?_|refine WL.e1 rfl ?_|refine WL.idx rfl rfl z3o zqm ?_|refine W.condT rfl ?_)
  refine (?_:WL _ _ _ _ _ _)
  refine WL.vl rfl (WV.callV (truH _) rfl (callF Tryz.func100 rfl rfl) rfl rfl rfl rfl rfl (con1_FS l[k] n).g) ?_
  cases hb:lng n l[k] with
  | false =>
   rw [dl_here hlt hb hno,if_pos hlt]
   repeat (first|refine W.gob rfl ?_|refine WL.nil ?_|refine WL.e1 rfl ?_|refine W.condT rfl ?_)
   refine (?_:W _ _ _ _ _)
   exact W.ret (fin1 rfl rfl rfl rfl)
  | true =>
   repeat (first|refine W.gob rfl ?_|refine WL.nil ?_|refine WL.e1 rfl ?_|refine WL.ar rfl rfl z3i ?_|refine W.condF rfl ?_)
   exact ⟨k+1,⟨by omega,fun i hi h=>by
    by_cases e:i=k
    ·subst e;exact hb
    ·exact hno i z3o h⟩,by omega,(zqt id)⟩
 ·have e:=dl_all (kp:=lng n) (l:=l) fun i h=>hno i z3o h
  rw [if_neg (by omega)]
  repeat (first|refine W.gob rfl ?_|refine WL.nil ?_|refine WL.bf rfl rfl rfl z3o ?_|refine WL.e1 rfl ?_|refine W.condF rfl ?_)
  refine (?_:W _ _ _ _ _)
  exact W.ret (fin1 rfl rfl rfl rfl)
theorem eRw_set (R:List Rw)(i:Nat)(x:Rw):(R.map eRw).set i (eRw x)=(R.set i x).map eRw:=by rw [List.map_set]
theorem dlR_G (l:List Rw) (n:Int) (hl:l.length≤100000):Cto truB 0 Tryz.prog 99 [.sl 0,.fn 100 [.pt 1 0 0]] [(0,.row 83 2 (l.map eRw)),(1,.box 3 [.sc (.int .i64 n)])] 2
  (.sl 2) [(2,.row 83 2 ((l.filter (lng n)).map eRw)),(1,.box 3 [.sc (.int .i64 n)])] 3:=by
 have hI:=idxR_FS l n hl
 have hRl:(l.map eRw).length=l.length:=List.length_map _
 refine Cto.intro truS Tryz.func99 rfl Tryz.ntmps99 (Nat.le_of_ble_eq_true rfl) rfl fun w0 F0 fp pg hB=>?_
 dsimp only [number,Nat.reduceAdd]
 by_cases h:dlN (lng n) l < l.length
 rotate_left
 ·rw [if_neg h] at hI
  have e:l.filter (lng n)=l:=dlN_all (by have:=dlN_le (kp:=lng n) l;omega)
  rw [e]
  repeat refine W.go rfl ?_
  refine (?_:WL _ _ _ _ _ _)
  refine WL.vl rfl (WV.lendV (truH _) rfl (callF Tryz.func157 rfl rfl) rfl rfl rfl rfl rfl rfl truST hI.g) ?_
  repeat (first|refine W.go rfl ?_|refine WL.ev rfl ?_|refine W.condT rfl ?_)
  refine (?_:W _ _ _ _ _)
  refine W.tr (Tr.mv (t:=4) rfl rfl) ?_
  refine W.tr (σ':=⟨[(4,.sl 2)],[(2,.row 83 2 (l.map eRw)),(1,.box 3 [.sc (.int .i64 n)])],3⟩) (zqt id) ?_
  exact W.ret (finM rfl rfl rfl rfl rfl)
 ·rw [if_pos h] at hI
  have h0:=DlI.start h
  repeat refine W.go rfl ?_
  refine (?_:WL _ _ _ _ _ _)
  refine WL.vl rfl (WV.lendV (truH _) rfl (callF Tryz.func157 rfl rfl) rfl rfl rfl rfl rfl rfl truST hI.g) ?_
  repeat (first|refine W.gob rfl ?_|refine WL.nil ?_|refine WL.bf rfl rfl rfl z3o ?_|refine WL.e1 rfl ?_|refine WL.ar rfl rfl z3i ?_|refine W.condF rfl ?_)
  refine (?_:W _ _ _ _ _)
  refine W.loop (fun s:List Rw×Nat×Nat=>DlI (lng n) l s.1 s.2.1 s.2.2) (fun s=>⟨[(0,.sl 0),(1,.fn 100 [.pt 1 0 0]),(5,.sc (.int .i64 s.2.1)),(6,.sc (.int .i64 s.2.2))],[(0,.row 83 2 (s.1.map eRw)),(1,.box 3 [.sc (.int .i64 n)])],2⟩) (fun s=>l.length - s.2.2) (l,dlN (lng n) l,dlN (lng n) l+1) h0 (zqt id) fun s hs=>?_
  obtain ⟨R,i,j⟩:=s
  have hlen:=hs.len
  have hij:=hs.ij
  dsimp only at hs hlen hij ⊢
  have hRl:(R.map eRw).length=l.length:=by rw [List.length_map];exact hlen
  by_cases hlt:j < l.length
  ·have hRj:=hs.rest j hlt (Nat.le_refl _)
   have hat:(R.map eRw)[((j:Nat):Int).toNat]?=some (eRw l[j]):=by rw [Int.toNat_natCast,List.getElem?_map,hRj];rfl
   have hkeep:=hs.keep hlt
   have hskip:=hs.skip hlt
   have hC:=con1_FS l[j] n
   obtain ⟨x,hx⟩:∃ z,l[j]=z:=⟨_,rfl⟩
   rw [hx] at hat hkeep hskip hC
   clear hI
   repeat (first|refine W.gob rfl ?_|refine WL.nil ?_|refine WL.bt rfl rfl rfl z3o ?_|refine WL.e1 rfl ?_|refine WL.len rfl rfl zql ?_|refine WL.ixs rfl rfl z3s ?_|refine W.condT rfl ?_)
   refine (?_:WL _ _ _ _ _ _)
   refine WL.lda rfl rfl hat rfl ?_
   repeat (first|refine W.gob rfl ?_|refine WL.nil ?_|refine WL.e1 rfl ?_)
   refine (?_:WL _ _ _ _ _ _)
   refine WL.vl rfl (WV.lendV (truH _) rfl (callF Tryz.func100 rfl rfl) rfl rfl rfl rfl rfl rfl truST hC.g) ?_
   cases hb:lng n x with
   | true =>
    have hil:i < R.length:=by omega
    have hati:(R.map eRw)[((i:Nat):Int).toNat]?=some (eRw R[i]):=map_at hil
    have hset:=eRw_set R i x
    repeat (first|refine W.gob rfl ?_|refine WL.nil ?_|refine WL.e1 rfl ?_|refine WL.ixs rfl rfl z3s ?_|refine W.condT rfl ?_)
    refine (?_:WL _ _ _ _ _ _)
    refine WL.sto rfl rfl rfl rfl hati (by show 0+2≤2;omega) ?_
    repeat (first|refine W.gob rfl ?_|refine WL.nil ?_|refine WL.e1 rfl ?_|refine WL.ar rfl rfl z3i ?_)
    exact ⟨(R.set i x,i+1,j+1),hkeep hb,by dsimp only;omega,(zqu (fun q=>q) (by repeat (first|exact trivial|refine ⟨⟨?_,?_,?_⟩,?_⟩|rfl|exact congrArg (fun q=>some (AO.row _ _ q)) hset)) rfl)⟩
   | false =>
    repeat (first|refine W.gob rfl ?_|refine WL.nil ?_|refine WL.e1 rfl ?_|refine WL.ar rfl rfl z3i ?_|refine W.condF rfl ?_)
    exact ⟨(R,i,j+1),hskip hb,by dsimp only;omega,(zqt id)⟩
  ·have hj:j=l.length:=by omega
   subst hj
   have hk:=hs.end_
   have hfin:((R.map eRw).take ((i:Nat):Int).toNat++List.replicate ((R.map eRw).length - ((i:Nat):Int).toNat) ([Value.int .i64 0,.slice none 0 0].map AV.sc)).take ((i:Nat):Int).toNat=(l.filter (lng n)).map eRw:=by
    rw [Int.toNat_natCast,List.take_append_of_le_length (by rw [List.length_take,hRl];omega),List.take_take,Nat.min_self,← List.map_take,hk]
   clear hI
   repeat (first|refine W.gob rfl ?_|refine WL.nil ?_|refine WL.bf rfl rfl rfl z3o ?_|refine WL.e1 rfl ?_|refine WL.len rfl rfl zql ?_|refine W.condF rfl ?_)
   refine (?_:WL _ _ _ _ _ _)
   refine WL.clrN rfl rfl rfl rfl rfl rfl rfl rfl ⟨by omega,by rw [hRl];omega⟩ ?_
   repeat (first|refine W.gob rfl ?_|refine WL.nil ?_|refine WL.e1 rfl ?_)
   refine (?_:WL _ _ _ _ _ _)
   refine WL.pre rfl rfl rfl ⟨by omega,by simp;omega⟩ ?_
   repeat (first|refine WL.nil ?_|refine WL.e1 rfl ?_)
   refine (?_:W _ _ _ _ _)
   refine W.tr (σ':=⟨[(4,.sl 2)],[(2,.row 83 2 ((l.filter (lng n)).map eRw)),(1,.box 3 [.sc (.int .i64 n)])],3⟩) (zqu (fun q=>q) (by repeat (first|exact trivial|refine ⟨⟨?_,?_,?_⟩,?_⟩|rfl|exact congrArg (fun q=>some (AO.row _ _ q)) hfin)) rfl) ?_
   exact W.ret (finM rfl rfl rfl rfl rfl)
end
section
open Go.RowKit
theorem eqInt_FS (l m:List Int) (h1:l.length≤100000) (h2:m.length≤100000):Ctr Tryz.prog 105 [.ls 1 (l.map eInt),.ls 1 (m.map eInt)] (.sc (.bool (decide (l=m)))):=by
 by_cases hl:l.length=m.length
 rotate_left
 ·rw [decide_eq_false fun e=>hl (by rw [e])]
  refine Ctr.intro Tryz.func105 rfl Tryz.ntmps105 (Nat.le_of_ble_eq_true rfl) (bd_all rfl) fun w0 F0=>?_;dsimp only [St.init,number,Nat.reduceAdd]
  repeat (first|refine W.gob rfl ?_|refine WL.nil ?_|refine WL.nt rfl rfl rfl z3o ?_|refine WL.e1 rfl ?_|refine WL.len rfl rfl zql ?_|refine W.condT rfl ?_)
  refine (?_:W _ _ _ _ _)
  exact W.ret (fin1 rfl rfl rfl rfl)
 refine Ctr.intro Tryz.func105 rfl Tryz.ntmps105 (Nat.le_of_ble_eq_true rfl) (bd_all rfl) fun w0 F0=>?_;dsimp only [St.init,number,Nat.reduceAdd]
 repeat (first|refine W.gob rfl ?_|refine WL.nil ?_|refine WL.nf rfl rfl rfl z3o ?_|refine WL.e1 rfl ?_|refine WL.len rfl rfl zql ?_|refine W.condF rfl ?_)
 refine (?_:W _ _ _ _ _)
 refine W.loop (fun k:Nat=>k≤l.length∧∀ i (hi:i < k) (h1:i < l.length) (h2:i < m.length),l[i]=m[i]) (fun k=>⟨[(0,.ls 1 (l.map eInt)),(1,.ls 1 (m.map eInt)),(12,.sc (.int .i64 l.length)),(13,.sc (.int .i64 k))],[],0⟩) (fun k=>l.length - k) 0 ⟨by omega,fun i hi=>by omega⟩ (zqt id) fun k hk=>?_
 obtain ⟨hk,hsame⟩:=hk
 by_cases hlt:k < l.length
 ·have hlt2:k < m.length:=by omega
  by_cases he:l[k]=m[k]
  ·have hd:decide (l[k]=m[k])=true:=decide_eq_true he
   repeat (first|refine W.gob rfl ?_|refine WL.nil ?_|refine WL.bt rfl rfl rfl z3o ?_|refine WL.e1 rfl ?_|refine W.condT rfl ?_)
   refine (?_:W _ _ _ _ _)
   refine W.drawK z3k z3k ?_
   repeat (first|refine DK.st rfl ?_|refine DK.idx rfl rfl z3o zqm ?_|refine DK.nil ?_)
   rw [hd]
   repeat (first|refine W.gob rfl ?_|refine WL.nil ?_|refine WL.e1 rfl ?_|refine WL.ar rfl rfl z3i ?_|refine W.condF rfl ?_)
   refine ⟨k+1,⟨by omega,fun i hi a b=>?_⟩,by omega,(zqt id)⟩
   by_cases e:i=k
   ·subst e;exact he
   ·exact hsame i z3o a b
  ·have hd:decide (l[k]=m[k])=false:=decide_eq_false he
   rw [decide_eq_false fun e=>he (by subst e;rfl)]
   repeat (first|refine W.gob rfl ?_|refine WL.nil ?_|refine WL.bt rfl rfl rfl z3o ?_|refine WL.e1 rfl ?_|refine W.condT rfl ?_)
   refine (?_:W _ _ _ _ _)
   refine W.drawK z3k z3k ?_
   repeat (first|refine DK.st rfl ?_|refine DK.idx rfl rfl z3o zqm ?_|refine DK.nil ?_)
   rw [hd]
   repeat (first|refine W.gob rfl ?_|refine WL.nil ?_|refine WL.e1 rfl ?_|refine W.condT rfl ?_)
   refine (?_:W _ _ _ _ _)
   exact W.ret (fin1 rfl rfl rfl rfl)
 ·have e:l=m:=List.ext_getElem hl fun i a b=>hsame i (by omega) a b
  rw [decide_eq_true e]
  repeat (first|refine W.gob rfl ?_|refine WL.nil ?_|refine WL.bf rfl rfl rfl z3o ?_|refine WL.e1 rfl ?_|refine W.condF rfl ?_)
  refine (?_:W _ _ _ _ _)
  exact W.ret (fin1 rfl rfl rfl rfl)
theorem con3_FS (r x:Rw):Ctr Tryz.prog 104 [.ag (eRw r),.ag (eRw x)] (.sc (.bool (decide (r.2=x.2)))):=by
 obtain ⟨a,l,hl⟩:=r
 obtain ⟨b,m,hm⟩:=x
 have hE:=eqInt_FS l m z3o z3o
 show Ctr Tryz.prog 104 [.ag [.sc (.int .i64 a),.ls 1 (l.map eInt)],.ag [.sc (.int .i64 b),.ls 1 (m.map eInt)]] (.sc (.bool (decide (l=m))))
 refine Ctr.intro Tryz.func104 rfl Tryz.ntmps104 (Nat.le_of_ble_eq_true rfl) (bd_all rfl) fun w0 F0=>?_;dsimp only [St.init,number,Nat.reduceAdd]
 repeat refine W.go rfl ?_
 refine (?_:WL _ _ _ _ _ _)
 refine WL.vl rfl (WV.call rfl (callF Tryz.func105 rfl rfl) rfl rfl hE) ?_
 repeat refine WL.ev rfl ?_
 refine (?_:W _ _ _ _ _)
 exact W.ret (fin1 rfl rfl rfl rfl)
def eGr (g:List Rw):List AV:=[.ls 2 (g.map eRw)]
def eGo (g:List Rw):List AV:=[.ow 83 2 (g.map eRw)]
theorem grp1_FS (g:List Rw) (r x:Rw) (t:List Rw) (hg:g=r::t):Ctr Tryz.prog 160 [.ls 2 (g.map eRw),.pr [.sc (.func (.func 104) #[] #[])],.pr (eRw x)] (.sc (.bool (decide (r.2=x.2)))):=by
 subst hg
 have hl:((r::t).map eRw).length=t.length+1:=by simp
 have hat:((r::t).map eRw)[((0:Nat):Int).toNat]?=some (eRw r):=rfl
 obtain ⟨GG,hGG⟩:∃ z,(r::t).map eRw=z:=⟨_,rfl⟩
 rw [hGG] at hl hat ⊢
 refine Ctr.intro Tryz.func160 rfl Tryz.ntmps160 (Nat.le_of_ble_eq_true rfl) (bd_all rfl) fun w0 F0=>?_;dsimp only [St.init,number,Nat.reduceAdd]
 repeat refine W.go rfl ?_
 refine (?_:W _ _ _ _ _)
 refine W.drawK z3k z3k ?_
 repeat refine DK.st rfl ?_
 refine DK.idx rfl rfl z3o hat ?_
 repeat refine DK.st rfl ?_
 refine DK.vl rfl (WV.callV (truH _) rfl (callF Tryz.func104 rfl rfl) rfl rfl rfl rfl rfl (con3_FS r x).g) ?_
 repeat (first|refine DK.st rfl ?_|refine DK.nil ?_)
 refine (?_:W _ _ _ _ _)
 exact W.ret (fin1 rfl rfl rfl rfl)
theorem grp2_FS (g:List Rw):Ctr Tryz.prog 162 [.ls 2 (g.map eRw)] (.sc (.bool (!two g))):=by
 have e:(!two g)=decide ((g.length:Int) < 2):=by
  by_cases h:(g.length:Int) < 2
  ·rw [decide_eq_true h,show two g=false from decide_eq_false (by omega)];rfl
  ·rw [decide_eq_false h,show two g=true from decide_eq_true (by omega)];rfl
 rw [e]
 refine Ctr.intro Tryz.func162 rfl Tryz.ntmps162 (Nat.le_of_ble_eq_true rfl) (bd_all rfl) fun w0 F0=>?_;dsimp only [St.init,number,Nat.reduceAdd]
 repeat (first|refine W.go rfl ?_|refine WL.ev rfl ?_|refine WL.len rfl rfl zql ?_)
 refine (?_:W _ _ _ _ _)
 exact W.ret (fin1 rfl rfl rfl rfl)
theorem idxG1_FS (L:List Rw) (x:Rw) (hl:L.length≤1000):Ctr Tryz.prog 159 [.ls 1 ((cnG L).map eGr),.fn 160 [.pr [.sc (.func (.func 104) #[] #[])],.pr (eRw x)]] (.sc (.int .i64 (if grI L x < (fsT L).length then (grI L x:Int) else -1))):=by
 have hGl:((cnG L).map eGr).length=(fsT L).length:=by rw [List.length_map,cnG_len]
 have hcl:=cnG_len L
 have hfl:=fsT_len L
 refine Ctr.intro Tryz.func159 rfl Tryz.ntmps159 (Nat.le_of_ble_eq_true rfl) (bd_all rfl) fun w0 F0=>?_;dsimp only [St.init,number,Nat.reduceAdd]
 repeat (first|refine W.go rfl ?_|refine WL.ev rfl ?_|refine WL.len rfl rfl zql ?_)
 refine (?_:W _ _ _ _ _)
 refine W.loop (fun k:Nat=>k≤(fsT L).length∧k≤grI L x) (fun k=>⟨[(0,.ls 1 ((cnG L).map eGr)),(1,.fn 160 [.pr [.sc (.func (.func 104) #[] #[])],.pr (eRw x)]),(7,.sc (.int .i64 (cnG L).length)),(8,.sc (.int .i64 k))],[],0⟩) (fun k=>(fsT L).length - k) 0 ⟨by omega,by omega⟩ (zqt id) fun k hk=>?_
 obtain ⟨hk,hkg⟩:=hk
 have hgl:=grI_le L x
 by_cases hlt:k < (fsT L).length
 ·have hkG:k < (cnG L).length:=by rw [cnG_len];exact hlt
  obtain ⟨t,ht⟩:=cnG_at hkG hlt
  have hat:((cnG L).map eGr)[((k:Nat):Int).toNat]?=some (eGr (cnG L)[k]):=map_at hkG
  have hC:=grp1_FS (cnG L)[k] (fsT L)[k] x t ht
  have hc:grI L x=k∨k < grI L x:=by omega
  have hd:decide ((fsT L)[k].2=x.2)=decide (grI L x=k):=by
   rcases hc with e|e
   ·have:=grI_at (L:=L) (x:=x) z3o
    rw [decide_eq_true e,decide_eq_true]
    simpa only [e] using this
   ·rw [decide_eq_false (grI_lt e hlt),decide_eq_false (by omega)]
  rw [hd] at hC
  obtain ⟨gk,hgk⟩:∃ z,(cnG L)[k]=z:=⟨_,rfl⟩
  rw [hgk] at hat hC
  have hat:((cnG L).map eGr)[((k:Nat):Int).toNat]?=some [.ls 2 (gk.map eRw)]:=hat
  obtain ⟨GG,hGG⟩:∃ z,(cnG L).map eGr=z:=⟨_,rfl⟩
  rw [hGG] at hat hGl ⊢
  rcases hc with e|e
  ·rw [decide_eq_true e] at hC
   rw [if_pos (by omega),e]
   repeat (first|refine W.gob rfl ?_|refine WL.nil ?_|refine WL.bt rfl rfl rfl z3o ?_|refine WL.e1 rfl ?_|refine W.condT rfl ?_)
   refine (?_:WL _ _ _ _ _ _)
   refine WL.idx rfl rfl z3o hat ?_
   repeat refine WL.e1 rfl ?_
   refine (?_:WL _ _ _ _ _ _)
   refine WL.vl rfl (WV.callV (truH _) rfl (callF Tryz.func160 rfl rfl) rfl rfl rfl rfl rfl hC.g) ?_
   repeat (first|refine W.gob rfl ?_|refine WL.nil ?_|refine WL.e1 rfl ?_|refine W.condT rfl ?_)
   refine (?_:W _ _ _ _ _)
   exact W.ret (fin1 rfl rfl rfl rfl)
  ·rw [decide_eq_false (by omega)] at hC
   repeat (first|refine W.gob rfl ?_|refine WL.nil ?_|refine WL.bt rfl rfl rfl z3o ?_|refine WL.e1 rfl ?_|refine W.condT rfl ?_)
   refine (?_:WL _ _ _ _ _ _)
   refine WL.idx rfl rfl z3o hat ?_
   repeat refine WL.e1 rfl ?_
   refine (?_:WL _ _ _ _ _ _)
   refine WL.vl rfl (WV.callV (truH _) rfl (callF Tryz.func160 rfl rfl) rfl rfl rfl rfl rfl hC.g) ?_
   repeat (first|refine W.gob rfl ?_|refine WL.nil ?_|refine WL.e1 rfl ?_|refine WL.ar rfl rfl z3i ?_|refine W.condF rfl ?_)
   exact ⟨k+1,⟨by omega,by omega⟩,by omega,(zqt id)⟩
 ·rw [if_neg (by omega)]
  repeat (first|refine W.gob rfl ?_|refine WL.nil ?_|refine WL.bf rfl rfl rfl z3o ?_|refine WL.e1 rfl ?_|refine W.condF rfl ?_)
  refine (?_:W _ _ _ _ _)
  exact W.ret (fin1 rfl rfl rfl rfl)
theorem idxG2_FS (G:List (List Rw)) (hl:G.length≤1000):Ctr Tryz.prog 159 [.ls 1 (G.map eGr),.sc (.func (.func 162) #[] #[])] (.sc (.int .i64 (if dlN two G < G.length then (dlN two G:Int) else -1))):=by
 have hGl:(G.map eGr).length=G.length:=List.length_map _
 refine Ctr.intro Tryz.func159 rfl Tryz.ntmps159 (Nat.le_of_ble_eq_true rfl) (bd_all rfl) fun w0 F0=>?_;dsimp only [St.init,number,Nat.reduceAdd]
 repeat (first|refine W.go rfl ?_|refine WL.ev rfl ?_|refine WL.len rfl rfl zql ?_)
 refine (?_:W _ _ _ _ _)
 refine W.loop (fun k:Nat=>k≤G.length∧∀ i (hi:i < k) (h:i < G.length),two G[i]=true) (fun k=>⟨[(0,.ls 1 (G.map eGr)),(1,.sc (.func (.func 162) #[] #[])),(7,.sc (.int .i64 G.length)),(8,.sc (.int .i64 k))],[],0⟩) (fun k=>G.length - k) 0 ⟨by omega,fun i hi=>by omega⟩ (zqt id) fun k hk=>?_
 obtain ⟨hk,hno⟩:=hk
 by_cases hlt:k < G.length
 ·have hat:(G.map eGr)[((k:Nat):Int).toNat]?=some (eGr G[k]):=map_at hlt
  have hC:=grp2_FS G[k]
  have hat:(G.map eGr)[((k:Nat):Int).toNat]?=some [.ls 2 (G[k].map eRw)]:=hat
  cases hb:two G[k] with
  | false =>
   rw [hb] at hC
   rw [dl_here hlt hb hno,if_pos hlt]
   clear hno
   repeat (first|refine W.gob rfl ?_|refine WL.nil ?_|refine WL.bt rfl rfl rfl z3o ?_|refine WL.e1 rfl ?_|refine WL.idx rfl rfl z3o zqm ?_|refine W.condT rfl ?_)
   refine (?_:WL _ _ _ _ _ _)
   refine WL.vl rfl (WV.callV (truH _) rfl (callF Tryz.func162 rfl rfl) rfl rfl rfl rfl rfl hC.g) ?_
   repeat (first|refine W.gob rfl ?_|refine WL.nil ?_|refine WL.e1 rfl ?_|refine W.condT rfl ?_)
   refine (?_:W _ _ _ _ _)
   exact W.ret (fin1 rfl rfl rfl rfl)
  | true =>
   rw [hb] at hC
   have hno2:∀ i (hi:i < k+1) (h:i < G.length),two G[i]=true:=fun i hi h=>by
    by_cases e:i=k
    ·subst e;exact hb
    ·exact hno i z3o h
   clear hno
   repeat (first|refine W.gob rfl ?_|refine WL.nil ?_|refine WL.bt rfl rfl rfl z3o ?_|refine WL.e1 rfl ?_|refine WL.idx rfl rfl z3o zqm ?_|refine W.condT rfl ?_)
   refine (?_:WL _ _ _ _ _ _)
   refine WL.vl rfl (WV.callV (truH _) rfl (callF Tryz.func162 rfl rfl) rfl rfl rfl rfl rfl hC.g) ?_
   repeat (first|refine W.gob rfl ?_|refine WL.nil ?_|refine WL.e1 rfl ?_|refine WL.ar rfl rfl z3i ?_|refine W.condF rfl ?_)
   exact ⟨k+1,⟨by omega,hno2⟩,by omega,(zqt id)⟩
 ·have e:=dl_all (kp:=two) (l:=G) fun i h=>hno i z3o h
  rw [if_neg (by omega)]
  clear hno
  repeat (first|refine W.gob rfl ?_|refine WL.nil ?_|refine WL.bf rfl rfl rfl z3o ?_|refine WL.e1 rfl ?_|refine W.condF rfl ?_)
  refine (?_:W _ _ _ _ _)
  exact W.ret (fin1 rfl rfl rfl rfl)
theorem eGr_set (R:List (List Rw))(i:Nat)(x:List Rw):(R.map eGr).set i (eGr x)=(R.set i x).map eGr:=by rw [List.map_set]
theorem dlG_G (l:List (List Rw)) (hl:l.length≤1000):Cto truB 0 Tryz.prog 161 [.sl 0,.sc (.func (.func 162) #[] #[])] [(0,.row 76 1 (l.map eGr))] 1
  (.sl 1) [(1,.row 76 1 ((l.filter two).map eGr))] 2:=by
 have hI:=idxG2_FS l hl
 have hRl:(l.map eGr).length=l.length:=List.length_map _
 refine Cto.intro truS Tryz.func161 rfl Tryz.ntmps161 (Nat.le_of_ble_eq_true rfl) rfl fun w0 F0 fp pg hB=>?_
 dsimp only [number,Nat.reduceAdd]
 by_cases h:dlN two l < l.length
 rotate_left
 ·rw [if_neg h] at hI
  have e:l.filter two=l:=dlN_all (by have:=dlN_le (kp:=two) l;omega)
  rw [e]
  repeat refine W.go rfl ?_
  refine (?_:WL _ _ _ _ _ _)
  refine WL.vl rfl (WV.lendV (truH _) rfl (callF Tryz.func159 rfl rfl) rfl rfl rfl rfl rfl rfl truST hI.g) ?_
  repeat (first|refine W.go rfl ?_|refine WL.ev rfl ?_|refine W.condT rfl ?_)
  refine (?_:W _ _ _ _ _)
  refine W.tr (Tr.mv (t:=4) rfl rfl) ?_
  refine W.tr (σ':=⟨[(4,.sl 1)],[(1,.row 76 1 (l.map eGr))],2⟩) (zqt id) ?_
  exact W.ret (finM rfl rfl rfl rfl rfl)
 ·rw [if_pos h] at hI
  have h0:=DlI.start h
  repeat refine W.go rfl ?_
  refine (?_:WL _ _ _ _ _ _)
  refine WL.vl rfl (WV.lendV (truH _) rfl (callF Tryz.func159 rfl rfl) rfl rfl rfl rfl rfl rfl truST hI.g) ?_
  repeat (first|refine W.gob rfl ?_|refine WL.nil ?_|refine WL.bf rfl rfl rfl z3o ?_|refine WL.e1 rfl ?_|refine WL.ar rfl rfl z3i ?_|refine W.condF rfl ?_)
  refine (?_:W _ _ _ _ _)
  refine W.loop (fun s:List (List Rw)×Nat×Nat=>DlI two l s.1 s.2.1 s.2.2) (fun s=>⟨[(0,.sl 0),(1,.sc (.func (.func 162) #[] #[])),(5,.sc (.int .i64 s.2.1)),(6,.sc (.int .i64 s.2.2))],[(0,.row 76 1 (s.1.map eGr))],1⟩) (fun s=>l.length - s.2.2) (l,dlN two l,dlN two l+1) h0 (zqt id) fun s hs=>?_
  obtain ⟨R,i,j⟩:=s
  have hlen:=hs.len
  have hij:=hs.ij
  dsimp only at hs hlen hij ⊢
  have hRl:(R.map eGr).length=l.length:=by rw [List.length_map];exact hlen
  by_cases hlt:j < l.length
  ·have hRj:=hs.rest j hlt (Nat.le_refl _)
   have hat:(R.map eGr)[((j:Nat):Int).toNat]?=some (eGr l[j]):=by rw [Int.toNat_natCast,List.getElem?_map,hRj];rfl
   have hkeep:=hs.keep hlt
   have hskip:=hs.skip hlt
   have hC:=grp2_FS l[j]
   obtain ⟨x,hx⟩:∃ z,l[j]=z:=⟨_,rfl⟩
   rw [hx] at hat hkeep hskip hC
   have hat:(R.map eGr)[((j:Nat):Int).toNat]?=some [.ls 2 (x.map eRw)]:=hat
   clear hI
   cases hb:two x with
   | true =>
    have hil:i < R.length:=by omega
    have hati:(R.map eGr)[((i:Nat):Int).toNat]?=some (eGr R[i]):=map_at hil
    have hset:(R.map eGr).set i [.ls 2 (x.map eRw)]=(R.set i x).map eGr:=eGr_set R i x
    rw [hb] at hC
    repeat (first|refine W.gob rfl ?_|refine WL.nil ?_|refine WL.bt rfl rfl rfl z3o ?_|refine WL.e1 rfl ?_|refine WL.len rfl rfl zql ?_|refine WL.ixs rfl rfl z3s ?_|refine W.condT rfl ?_)
    refine (?_:WL _ _ _ _ _ _)
    refine WL.ldr rfl rfl hat rfl rfl ?_
    repeat (first|refine W.gob rfl ?_|refine WL.nil ?_|refine WL.e1 rfl ?_)
    refine (?_:WL _ _ _ _ _ _)
    refine WL.vl rfl (WV.callV (truH _) rfl (callF Tryz.func162 rfl rfl) rfl rfl rfl rfl rfl hC.g) ?_
    repeat (first|refine W.gob rfl ?_|refine WL.nil ?_|refine WL.e1 rfl ?_|refine WL.ixs rfl rfl z3s ?_|refine W.condT rfl ?_)
    refine (?_:WL _ _ _ _ _ _)
    refine WL.sto rfl rfl rfl rfl hati (by show 0+1≤1;omega) ?_
    repeat (first|refine W.gob rfl ?_|refine WL.nil ?_|refine WL.e1 rfl ?_|refine WL.ar rfl rfl z3i ?_)
    exact ⟨(R.set i x,i+1,j+1),hkeep hb,by dsimp only;omega,(zqu (fun q=>q) (by repeat (first|exact trivial|refine ⟨⟨?_,?_,?_⟩,?_⟩|rfl|exact congrArg (fun q=>some (AO.row _ _ q)) hset)) rfl)⟩
   | false =>
    rw [hb] at hC
    repeat (first|refine W.gob rfl ?_|refine WL.nil ?_|refine WL.bt rfl rfl rfl z3o ?_|refine WL.e1 rfl ?_|refine WL.len rfl rfl zql ?_|refine WL.ixs rfl rfl z3s ?_|refine W.condT rfl ?_)
    refine (?_:WL _ _ _ _ _ _)
    refine WL.ldr rfl rfl hat rfl rfl ?_
    repeat (first|refine W.gob rfl ?_|refine WL.nil ?_|refine WL.e1 rfl ?_)
    refine (?_:WL _ _ _ _ _ _)
    refine WL.vl rfl (WV.callV (truH _) rfl (callF Tryz.func162 rfl rfl) rfl rfl rfl rfl rfl hC.g) ?_
    repeat (first|refine W.gob rfl ?_|refine WL.nil ?_|refine WL.e1 rfl ?_|refine WL.ar rfl rfl z3i ?_|refine W.condF rfl ?_)
    exact ⟨(R,i,j+1),hskip hb,by dsimp only;omega,(zqt id)⟩
  ·have hj:j=l.length:=by omega
   subst hj
   have hk:=hs.end_
   have hfin:((R.map eGr).take ((i:Nat):Int).toNat++List.replicate ((R.map eGr).length - ((i:Nat):Int).toNat) [AV.sc (.slice none 0 0)]).take ((i:Nat):Int).toNat=(l.filter two).map eGr:=by
    rw [Int.toNat_natCast,List.take_append_of_le_length (by rw [List.length_take,hRl];omega),List.take_take,Nat.min_self,← List.map_take,hk]
   clear hI
   repeat (first|refine W.gob rfl ?_|refine WL.nil ?_|refine WL.bf rfl rfl rfl z3o ?_|refine WL.e1 rfl ?_|refine WL.len rfl rfl zql ?_|refine W.condF rfl ?_)
   refine (?_:WL _ _ _ _ _ _)
   refine WL.clr rfl rfl rfl rfl rfl rfl rfl rfl ⟨by omega,by rw [hRl];omega⟩ ?_
   repeat (first|refine W.gob rfl ?_|refine WL.nil ?_|refine WL.e1 rfl ?_)
   refine (?_:WL _ _ _ _ _ _)
   refine WL.pre rfl rfl rfl ⟨by omega,by simp;omega⟩ ?_
   repeat (first|refine WL.nil ?_|refine WL.e1 rfl ?_)
   refine (?_:W _ _ _ _ _)
   refine W.tr (σ':=⟨[(4,.sl 1)],[(1,.row 76 1 ((l.filter two).map eGr))],2⟩) (zqu (fun q=>q) (by repeat (first|exact trivial|refine ⟨⟨?_,?_,?_⟩,?_⟩|rfl|exact congrArg (fun q=>some (AO.row _ _ q)) hfin)) rfl) ?_
   exact W.ret (finM rfl rfl rfl rfl rfl)
end
section
open Go.RowKit
theorem eGo_fz (G:List (List Rw)):((G.map eGo).map fun r=>r.map (AV.fz 1))=G.map eGr:=by
 rw [List.map_map]
 apply List.map_congr_left
 intro g _
 show [AV.ls 2 ((g.map eRw).map fun r=>r.map (AV.fz 0))]=[AV.ls 2 (g.map eRw)]
 have:(fun r:List AV=>r.map (AV.fz 0))=id:=by
  funext r
  show r.map (AV.fz 0)=r
  have e:AV.fz 0=id:=by funext av;cases av<;>rfl
  rw [e,List.map_id]
 rw [this,List.map_id]
theorem eGo_shal (G:List (List Rw)):∀ r∈G.map eGo,∀ av∈r,av.shal 1=true:=by
 intro r hr av hav
 obtain⟨g,_,rfl⟩:=List.mem_map.1 hr
 rcases List.mem_singleton.1 hav with rfl
 show ((g.map eRw).all fun r=>r.all (AV.shal 0))=true
 rw [List.all_eq_true]
 intro q hq
 obtain⟨x,_,rfl⟩:=List.mem_map.1 hq
 rfl
theorem eRw_own(g:List Rw):∀ q∈g.map eRw,∀ av∈q,av.own=false:=by
 intro q hq av hav
 obtain⟨x,_,rfl⟩:=List.mem_map.1 hq
 rcases List.mem_cons.1 hav with rfl|hav
 ·rfl
 ·rcases List.mem_singleton.1 hav with rfl
  rfl
theorem eGo_at {G:List (List Rw)} {i:Nat} (h:i<G.length):(G.map eGo)[i]?=some (eGo G[i]):=by rw [List.getElem?_map,List.getElem?_eq_getElem h];rfl
theorem eGo_set {G:List (List Rw)} {i:Nat} (l:List Rw) {l0:List Rw}:(G.map eGo).set i ((eGo l0).set 0 (.ow 83 2 (l.map eRw)))=(G.set i l).map eGo:=by rw [List.map_set];rfl
theorem groups_FS (L:List Rw) (hL:L.length≤100):Ctr Tryz.prog 103 [.ls 2 (L.map eRw),.sc (.func (.func 104) #[] #[])] (.ls 1 (((cnG L).filter two).map eGr)):=by
 have hRl:(L.map eRw).length=L.length:=List.length_map _
 have hRa:∀ k (h:k < L.length),(L.map eRw)[((k:Nat):Int).toNat]?=some (eRw L[k]):=fun k h=>map_at h
 obtain ⟨RR,hRR⟩:∃ z,L.map eRw=z:=⟨_,rfl⟩
 rw [hRR] at hRl hRa ⊢
 refine Ctr.intro Tryz.func103 rfl Tryz.ntmps103 (Nat.le_of_ble_eq_true rfl) (bd_all rfl) fun w0 F0=>?_;dsimp only [St.init,number,Nat.reduceAdd]
 repeat (first|refine W.gob rfl ?_|refine WL.nil ?_|refine WL.e1 rfl ?_|refine WL.len rfl rfl zql ?_)
 refine (?_:W _ _ _ _ _)
 first|refine W.tr (Tr.nil (t:=5) 76 1 rfl rfl) ?_|refine WL.tr (Tr.nil (t:=5) 76 1 rfl rfl) ?_
 dsimp only [St.put,St.new,St.upd,Nat.reduceAdd]
 first|refine W.tr (Tr.widen 1 rfl) ?_|refine WL.tr (Tr.widen 1 rfl) ?_
 dsimp only [St.upd]
 refine (?_:W _ _ _ _ _)
 refine W.loop (fun k:Nat=>k≤L.length) (fun k=>⟨[(3,.pt 0 0 0),(5,.sl 1),(9,.ls 2 RR),(10,.sc (.int .i64 RR.length)),(11,.sc (.int .i64 k))],[(0,.box 172 [.sc (.func (.func 104) #[] #[])]),(1,.rwn 76 1 ((cnG (L.take k)).map eGo))],2⟩) (fun k=>L.length - k) 0 (by omega) (zqu (fun q=>q) (by repeat (first|exact trivial|refine ⟨⟨?_,?_,?_⟩,?_⟩|rfl|exact congrArg (fun q=>some (AO.row _ _ q)) rfl|exact congrArg (fun q=>some (AO.rwn _ _ q)) rfl)) rfl) fun k hk=>?_
 by_cases hlt:k < L.length
 rotate_left
 ·obtain rfl:k=L.length:=by omega
  rw [List.take_length]
  have hgl:=cnG_len L
  have hfl:=fsT_len L
  have hD:=dlG_G (cnG L) z3o
  clear hRa
  repeat (first|refine W.gob rfl ?_|refine WL.nil ?_|refine WL.bf rfl rfl rfl z3o ?_|refine WL.e1 rfl ?_|refine W.condF rfl ?_)
  refine (?_:WL _ _ _ _ _ _)
  first|refine W.tr (Tr.freezeI 1 1 rfl (eGo_shal _) (eGo_fz _)) ?_|refine WL.tr (Tr.freezeI 1 1 rfl (eGo_shal _) (eGo_fz _)) ?_
  dsimp only [St.upd]
  refine (?_:WL _ _ _ _ _ _)
  refine WL.cto (truH _) [1] rfl rfl (callF Tryz.func161 rfl rfl) hD rfl rfl rfl ⟨⟨rfl,rfl,rfl⟩,trivial⟩ rfl rfl rfl rfl ?_
  repeat (first|refine WL.nil ?_|refine WL.e1 rfl ?_)
  refine (?_:W _ _ _ _ _)
  refine W.tr (Tr.freeze 2 rfl) ?_
  exact W.ret (fin1 rfl rfl rfl rfl)
 have hat:=hRa k hlt
 have htl:(L.take k).length=k:=by rw [List.length_take];omega
 have hI:=idxG1_FS (L.take k) L[k] z3o
 have hts:L.take (k+1)=L.take k++[L[k]]:=List.take_succ_eq_append_getElem hlt
 have hgl:=cnG_len (L.take k)
 have hfl:=fsT_len (L.take k)
 obtain ⟨x,hx⟩:∃ z,L[k]=z:=⟨_,rfl⟩
 rw [hx] at hat hI hts
 have hgi:=grI_le (L.take k) x
 by_cases hg:grI (L.take k) x < (fsT (L.take k)).length
 ·have hg2:grI (L.take k) x < (cnG (L.take k)).length:=by omega
  have hco:=cnG_old hg hg2
  have hgrl:((cnG (L.take k))[grI (L.take k) x]).length≤k:=by
   simp only [cnG,List.getElem_map]
   have:=grp_len (L.take k) ((fsT (L.take k))[grI (L.take k) x]'hg)
   omega
  rw [← hts] at hco
  rw [if_pos hg] at hI
  obtain ⟨i,hi⟩:∃ z,grI (L.take k) x=z:=⟨_,rfl⟩
  have hat2:=eGo_at hg2
  simp only [hi] at hI hg2 hco hgrl hat2
  obtain ⟨G,hG⟩:∃ z,cnG (L.take k)=z:=⟨_,rfl⟩
  simp only [hG] at hI hg2 hco hgrl hat2 ⊢
  have hcl:=eGo_set (G:=G) (i:=i) (G[i]++[x]) (l0:=G[i])
  rw [← hco] at hcl
  obtain ⟨g,hg0⟩:∃ z,G[i]=z:=⟨_,rfl⟩
  rw [hg0] at hgrl hat2 hcl
  have hmm:(g++[x]).map eRw=g.map eRw++[eRw x]:=by rw [List.map_append];rfl
  rw [hmm] at hcl
  have hml:(g.map eRw).length=g.length:=List.length_map _
  have hGl:(G.map eGo).length=G.length:=List.length_map _
  clear hRa hgi hgl hfl hco hi hG
  repeat (first|refine W.gob rfl ?_|refine WL.nil ?_|refine WL.bt rfl rfl rfl z3o ?_|refine W.condT rfl ?_)
  refine (?_:WL _ _ _ _ _ _)
  refine WL.idx rfl rfl z3o hat ?_
  repeat (first|refine W.gob rfl ?_|refine WL.nil ?_|refine WL.e1 rfl ?_)
  refine (?_:WL _ _ _ _ _ _)
  refine WL.vl rfl (WV.mkf rfl rfl) ?_
  refine (?_:WL _ _ _ _ _ _)
  refine WL.vl rfl (WV.lendX (truH _) rfl (callF Tryz.func159 rfl rfl) rfl (.cons (Lent.rwn 1 rfl (eGo_shal _) (eGo_fz _)) (.cons (Lent.fn rfl rfl) .nil)) truST hI.g) ?_
  repeat (first|refine W.gob rfl ?_|refine WL.nil ?_|refine WL.bf rfl rfl rfl z3o ?_|refine WL.e1 rfl ?_|refine W.condF rfl ?_)
  refine (?_:W _ _ _ _ _)
  first|refine W.tr (Tr.open_ 1 i 0 rfl hat2 rfl (eRw_own _) rfl) ?_|refine WL.tr (Tr.open_ 1 i 0 rfl hat2 rfl (eRw_own _) rfl) ?_
  dsimp only [St.upd,St.new,Nat.reduceAdd]
  refine W.of_wa z3k ?_
  refine WA.dt [false,false,false,false,false,false,false,true,true,false,true] [0,2] [0,2,1] 10 z3k z3k z3k ⟨rfl,rfl,trivial⟩ ⟨rfl,rfl,rfl,trivial⟩ ?_
  refine DTK.st rfl z3k rfl ?_
  refine DTK.st rfl z3k rfl ?_
  refine DTK.st rfl z3k rfl ?_
  refine DTK.st rfl z3k rfl ?_
  refine DTK.ixs rfl z3k rfl ⟨by omega,by omega⟩ ?_
  refine DTK.ldQ rfl z3k rfl rfl rfl hat2 (by show 0 < 1;omega) ?_
  refine DTK.st rfl z3k rfl ?_
  refine DTK.bd rfl rfl rfl ⟨rfl,rfl,trivial⟩ (fun _=>⟨rfl,rfl,rfl,trivial⟩) ?_
  refine DTK.ap rfl rfl (by show (g.map eRw).length+1≤1000000000;omega) ⟨rfl,rfl,trivial⟩ (fun _=>⟨rfl,rfl,rfl,trivial⟩) ?_
  refine DTK.ixs rfl z3k rfl ⟨by omega,by omega⟩ ?_
  refine DTK.stQ rfl rfl rfl rfl rfl rfl rfl (.inr ⟨_,rfl⟩) rfl rfl hat2 (by show 0 < 1;omega) rfl ⟨rfl,rfl,trivial⟩ (fun h=>by cases h) ?_
  refine DTK.nil ?_
  refine (?_:W _ _ _ _ _)
  refine W.tr (Tr.close_ 1 rfl rfl rfl hat2 (by show 0 < 1;omega) hcl) ?_
  dsimp only [St.upd,St.drop,rem,cond,Nat.beq]
  repeat (first|refine W.gob rfl ?_|refine WL.nil ?_|refine WL.e1 rfl ?_|refine WL.ar rfl rfl z3i ?_)
  exact ⟨k+1,by omega,by omega,(zqt id)⟩
 ·have hcn:=cnG_new hg
  rw [← hts] at hcn
  rw [if_neg hg] at hI
  obtain ⟨G,hG⟩:∃ z,cnG (L.take k)=z:=⟨_,rfl⟩
  simp only [hG] at hI hcn hgl ⊢
  have hmm:G.map eGo++[eGo [x]]=(cnG (L.take (k+1))).map eGo:=by rw [hcn,List.map_append];rfl
  have hGl:(G.map eGo).length=G.length:=List.length_map _
  clear hRa hcn hG hgi
  repeat (first|refine W.gob rfl ?_|refine WL.nil ?_|refine WL.bt rfl rfl rfl z3o ?_|refine W.condT rfl ?_)
  refine (?_:WL _ _ _ _ _ _)
  refine WL.idx rfl rfl z3o hat ?_
  repeat (first|refine W.gob rfl ?_|refine WL.nil ?_|refine WL.e1 rfl ?_)
  refine (?_:WL _ _ _ _ _ _)
  refine WL.vl rfl (WV.mkf rfl rfl) ?_
  refine (?_:WL _ _ _ _ _ _)
  refine WL.vl rfl (WV.lendX (truH _) rfl (callF Tryz.func159 rfl rfl) rfl (.cons (Lent.rwn 1 rfl (eGo_shal _) (eGo_fz _)) (.cons (Lent.fn rfl rfl) .nil)) truST hI.g) ?_
  repeat (first|refine W.gob rfl ?_|refine WL.nil ?_|refine WL.bt rfl rfl rfl z3o ?_|refine WL.e1 rfl ?_|refine W.condT rfl ?_)
  refine (?_:WL _ _ _ _ _ _)
  refine WL.bdO 0 rfl rfl rfl rfl ?_
  refine WL.tr (Tr.close_ 4 (rows2:=[eGo [x]]) rfl rfl rfl rfl (by show 0 < 1;omega) rfl) ?_
  dsimp only [St.upd,St.drop,rem,cond,Nat.beq]
  refine WL.apM rfl rfl rfl rfl (by show (G.map eGo).length+1≤1000000000;omega) ?_
  repeat (first|refine W.gob rfl ?_|refine WL.nil ?_|refine WL.e1 rfl ?_|refine WL.ar rfl rfl z3i ?_)
  exact ⟨k+1,by omega,by omega,(zqu (fun q=>bif Nat.beq q 1 then 5 else q) (by repeat (first|exact trivial|refine ⟨⟨?_,?_,?_⟩,?_⟩|rfl|exact congrArg (fun q=>some (AO.row _ _ q)) hmm|exact congrArg (fun q=>some (AO.rwn _ _ q)) hmm)) rfl)⟩
end
end Go.Proofs.YtgelfflighgajaaGreatDoor
