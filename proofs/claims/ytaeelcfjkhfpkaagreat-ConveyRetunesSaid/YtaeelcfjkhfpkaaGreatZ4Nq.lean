/- An instrument behind a capo: the reference. -/
import Derived.Test.YtaeelcfjkhfpkaaGreatYJNq
import Derived.Test.YtaeelcfjkhfpkaaGreatYHNq
set_option maxHeartbeats 8000000
set_option maxRecDepth 100000
set_option linter.unusedVariables false
set_option linter.unusedSimpArgs false
namespace Go.Proofs.YtaeelcfjkhfpkaaGreat
section
open Go.RowKit
theorem nch_val {P:Program} {w:World} {ev:Operand→Value} {o:Oper} {x:Operand} (ho:o.op=.nilCheck x)(n:Next)(w':World)(h:(execOp ev o).run P w=.ok n w'):∃ v,n=.value v:=by
 unfold execOp at h
 simp only [ho] at h
 generalize ev x=v at h
 split at h
 ·cases h
 ·cases h
 ·cases h
 ·split at h
  ·cases h
  ·rw [Sem.run_bind] at h
   generalize Sem.run P program w=r1 at h
   cases r1 with
   | ok a w1 =>
    simp only [Result.andThen] at h
    rw [Sem.run_bind] at h
    generalize Sem.run P (nilAhead _ _ _ _) w1=r2 at h
    cases r2 with
    | ok b w2 =>
     simp only [Result.andThen] at h
     split at h
     ·rw [Sem.run_bind] at h
      generalize Sem.run P (unsupported _) w2=r3 at h
      cases r3 with
      | ok c w3=>simp only [Result.andThen] at h;cases h;exact⟨_,rfl⟩
      | halt c w3=>simp only [Result.andThen] at h;cases h
     ·cases h;exact⟨_,rfl⟩
    | halt b w2=>simp only [Result.andThen] at h;cases h
   | halt a w1=>simp only [Result.andThen] at h;cases h
  ·cases h;exact⟨_,rfl⟩
 ·cases h;exact⟨_,rfl⟩
def tame2:Op→Bool
 | .move _=>true
 | .build _ _=>true
 | .buildSlice _ _ _=>true
 | .call c=>match c.callee with
  | .builtin .append=>true
  | _=>false
 | .assign _=>true
 | .alloc _=>true
 | .box _ _=>true
 | .load _ _=>true
 | .store _ _ _=>true
 | .fieldAddr _ _ _=>true
 | .field _ _ _=>true
 | .indexAddr _ _ _=>true
 | .index _ _ _=>true
 | .nilCheck _=>true
 | _=>false
section
variable {P:Program} {o:Oper} {a:Act} {w:World} {K K1 K2:Act→World→Prop} {Q:Exit→Act→World→Prop}
theorem tame_app {ev:Operand→Value} {c:Call} {T:TypeId} (hc:c.callee=.builtin .append)(n:Next)(w':World)(h:(do let d ← resolve ev c T;invoke d.target d.args:Sem Next).run P w=.ok n w'):∃ x,n=.value x:=by
 unfold resolve at h
 simp only [hc,Sem.run_bind,Sem.run_pure,Result.andThen_ok,invoke,builtin]at h
 cases hs:(Builtin.append_ c.argTypes T (c.args.map ev)).run P w with
 | ok x w1=>rw [hs]at h;simp only [Result.andThen]at h;cases h;exact⟨x,rfl⟩
 | halt x w1=>rw [hs]at h;simp only [Result.andThen]at h;cases h
theorem tame_no2 {ev:Operand→Value} (ht:tame2 o.op=true) (n:Next) (w':World) (h:(execOp ev o).run P w=.ok n w'):(∃ x,n=.value x)∨n=.skip:=by
 by_cases hn:∃ x,o.op=.nilCheck x
 ·obtain ⟨x,hx⟩:=hn
  exact .inl (nch_val hx n w' h)
 unfold execOp at h
 cases ho:o.op<;>simp only [ho,tame2]at ht h<;>first
  | (cases ht;done)
  |exact .inl (run_v _ _ _ h)
  |exact .inr (run_u _ _ _ h)
  | (refine .inl (tame_app ?_ n w' h);revert ht;split<;>first|(intro _;assumption)|(intro ht;cases ht))
  | (cases h;exact .inl ⟨_,rfl⟩)
  | (exact (hn ⟨_,ho⟩).elim)
theorem wp_and2 (ht:tame2 o.op=true)(h1:o.wp P a w K1 Q)(h2:o.wp P a w K2 Q):o.wp P a w (fun a w=>K1 a w∧K2 a w) Q:=by
 unfold Oper.wp at *
 cases hr:(execOp a.eval o).run P w with
 | ok n w' =>
  rw [hr] at h1 h2
  rcases tame_no2 ht n w' hr with⟨x,rfl⟩|rfl
  ·exact⟨h1,h2⟩
  ·exact⟨h1,h2⟩
 | halt x w'=>rw [hr] at h1 h2;cases x<;>simp only [Oper.upon] at h1 h2 ⊢<;>exact h1
end
structure Laid2 (ops A:Array Oper)(π ρ:Nat→Nat)(i j:Nat):Prop where
 sz:A.size=ops.size
 lt:∀ p,p<ops.size→π p<ops.size
 inv:∀ p,p<ops.size→ρ (π p)=p
 ltr:∀ q,q<ops.size→ρ q<ops.size
 inr:∀ q,q<ops.size→π (ρ q)=q
 hi:i<ops.size
 hj:j<ops.size
 op:∀ (p:Nat)(o:Oper),ops[p]?=some o→∃ X:Array Edge,A[π p]?=some { o with after:=X }∧(∀ e∈X,Region.binds .any e=true→(∃ e'∈o.after,Region.binds .any e'=true∧e.on=π e'.on)∨(p=j∧e.on=π i)) ∧
  (∀ e'∈o.after,Region.binds .any e'=true→∃ e∈X,Region.binds .any e=true∧e.on=π e'.on)
 tm:∀ (p:Nat)(o:Oper),ops[p]?=some o→tame2 o.op=true∧o.guard=none∧∀ e∈o.after,e.on<ops.size
structure Agr2 (n:Nat)(π:Nat→Nat)(L LA:Array Bool):Prop where
 s1:L.size=n
 s2:LA.size=n
 at_:∀ p,p<n→LA.getD (π p) false=L.getD p false
section
variable {P:Program} {ops A B:Array Oper} {π ρ π' ρ':Nat→Nat} {i j k:Nat} {L LA LB:Array Bool} {a:Act} {w:World} {K K1 K2:Act→World→Prop} {Q:Exit→Act→World→Prop}
theorem Agr2.put (hl:Laid2 ops A π ρ i j) (h:Agr2 ops.size π L LA) (hk:k<ops.size):Agr2 ops.size π (L.setIfInBounds k true) (LA.setIfInBounds (π k) true):=by
 refine ⟨by simp [h.s1],by simp [h.s2],fun p hp=>?_⟩
 by_cases e:k=p
 ·subst e
  have h1:k<L.size:=by rw [h.s1];exact hk
  have h2:π k<LA.size:=by rw [h.s2];exact hl.lt k hk
  simp [Array.getD_eq_getD_getElem?,h1,h2]
 ·have e2:π k≠π p:=fun x=>e (by rw [← hl.inv k hk,x,hl.inv p hp])
  have:=h.at_ p hp
  simp only [Array.getD_eq_getD_getElem?] at this ⊢
  rw [Array.getElem?_setIfInBounds_ne e,Array.getElem?_setIfInBounds_ne e2]
  exact this
theorem ready_to2 (hl:Laid2 ops A π ρ i j) (h:Agr2 ops.size π L LA) (hij:k=j→L.getD i false=true) (hk:k∈Region.ready .any ops L):π k∈Region.ready .any A LA:=by
 have hlt:=ready_lt hk
 obtain ⟨h1,o,ho,h2⟩:=mem_ready.1 hk
 obtain ⟨X,hX,hX1,_⟩:=hl.op k o ho
 refine mem_ready.2 ⟨?_,_,hX,fun e he hb=>?_⟩
 ·rw [getD_tf (by rw [h.s2];exact hl.lt k hlt),h.at_ k hlt,← getD_tf (by rw [h.s1];exact hlt)];exact h1
 ·rcases hX1 e he hb with⟨e',he',hb',heq⟩|⟨rfl,heq⟩
  ·rw [heq,h.at_ _ ((hl.tm k o ho).2.2 e' he')];exact h2 e' he' hb'
  ·rw [heq,h.at_ _ hl.hi];exact hij rfl
theorem ready_of2 (hl:Laid2 ops A π ρ i j) (h:Agr2 ops.size π L LA) {q:Nat} (hq:q∈Region.ready .any A LA):ρ q∈Region.ready .any ops L:=by
 have hlt:=ready_lt hq
 rw [hl.sz] at hlt
 obtain ⟨h1,o',ho',h2⟩:=mem_ready.1 hq
 have hr:=hl.ltr q hlt
 have ho:ops[ρ q]?=some ops[ρ q]:=Array.getElem?_eq_getElem hr
 obtain ⟨X,hX,_,hX2⟩:=hl.op (ρ q) _ ho
 rw [hl.inr q hlt,ho'] at hX
 cases hX
 refine mem_ready.2 ⟨?_,_,ho,fun e' he' hb'=>?_⟩
 ·rw [getD_tf (by rw [h.s1];exact hr),← h.at_ _ hr,hl.inr q hlt,← getD_tf (by rw [h.s2];exact hlt)];exact h1
 ·obtain ⟨e,he,hb,heq⟩:=hX2 e' he' hb'
  rw [← h.at_ _ ((hl.tm _ _ ho).2.2 e' he'),← heq]
  exact h2 e he hb
theorem ready_nil2(hl:Laid2 ops A π ρ i j)(h:Agr2 ops.size π L LA)(hr:Region.ready .any ops L=[]):Region.ready .any A LA=[] :=
 List.eq_nil_iff_forall_not_mem.2 fun q hq=>by have:=ready_of2 hl h hq;rw [hr]at this;cases this
theorem wpOp_to2 (hl:Laid2 ops A π ρ i j)(hk:k<ops.size)(h:wpOp P A Q (π k) K a w):wpOp P ops Q k K a w:=by
 have ho:ops[k]?=some ops[k]:=Array.getElem?_eq_getElem hk
 obtain⟨X,hX,_⟩:=hl.op k _ ho
 have hg:=(hl.tm k _ ho).2.1
 unfold wpOp at h ⊢
 rw [hX] at h
 rw [ho]
 simp only [Region.wanted,hg,if_true] at h ⊢
 exact h
theorem wpOp_and2 (hk:k<ops.size)(ht:tame2 ops[k].op=true)(hg:ops[k].guard=none)(h1:wpOp P ops Q k K1 a w)(h2:wpOp P ops Q k K2 a w):wpOp P ops Q k (fun a w=>K1 a w∧K2 a w) a w:=by
 have ho:ops[k]?=some ops[k]:=Array.getElem?_eq_getElem hk
 unfold wpOp at h1 h2 ⊢
 rw [ho] at h1 h2 ⊢
 simp only [Region.wanted,hg,if_true] at h1 h2 ⊢
 rcases h1 with h1|h1
 ·rcases h2 with h2|h2
  ·exact .inl (wp_and2 ht h1 h2)
  ·exact .inr h2
 ·exact .inr h1
theorem wpAny_one2 (hl:Laid2 ops A π ρ i j):∀ (fuel:Nat) (L LA:Array Bool) (a:Act) (w:World),Agr2 ops.size π L LA→(L.getD i false=true∨L.getD j false=true)→wpAny P .any A Q fuel LA a w→wpAny P .any ops Q fuel L a w:=by
 have cond:∀ {L:Array Bool} {k:Nat},L.size=ops.size→(L.getD i false=true∨L.getD j false=true)→k∈Region.ready .any ops L→k=j→L.getD i false=true:=by
  intro L k hs h hk e
  subst e
  rcases h with h|h
  ·exact h
  ·have:=(mem_ready.1 hk).1
   rw [getD_tf (by rw [hs];exact hl.hj),h] at this;cases this
 intro fuel
 induction fuel with
 | zero =>
  intro L LA a w h hor hw
  refine ⟨List.eq_nil_iff_forall_not_mem.2 fun k hk=>?_,hw.2⟩
  have:=ready_to2 hl h (cond h.s1 hor hk) hk
  rw [hw.1] at this;cases this
 | succ fuel ih =>
  intro L LA a w h hor hw
  refine ⟨fun hr=>hw.1 (ready_nil2 hl h hr),fun k hk=>?_⟩
  have hlt:=ready_lt hk
  refine wpOp_mono (fun a' w' hw'=>ih _ _ a' w' (h.put hl hlt) ?_ hw') (wpOp_to2 hl hlt (hw.2 _ (ready_to2 hl h (cond h.s1 hor hk) hk)))
  have mono:∀ q,L.getD q false=true→(L.setIfInBounds k true).getD q false=true:=fun q hq=>by
   by_cases e:k=q
   ·subst e;simp [Array.getD_eq_getD_getElem?,show k<L.size by rw [h.s1];exact hlt]
   ·simp only [Array.getD_eq_getD_getElem?] at hq ⊢
    rw [Array.getElem?_setIfInBounds_ne e];exact hq
  exact hor.imp (mono _) (mono _)
theorem wpAny_both2 (hA:Laid2 ops A π ρ i j) (hB:Laid2 ops B π' ρ' j i) (hne:i≠j):∀ (fuel:Nat) (L LA LB:Array Bool) (a:Act) (w:World),Agr2 ops.size π L LA→Agr2 ops.size π' L LB→L.getD i false=false→L.getD j false=false →
  wpAny P .any A Q fuel LA a w→wpAny P .any B Q fuel LB a w→wpAny P .any ops Q fuel L a w:=by
 intro fuel
 induction fuel with
 | zero =>
  intro L LA LB a w ha hb hi hj wa wb
  refine ⟨List.eq_nil_iff_forall_not_mem.2 fun k hk=>?_,wa.2⟩
  by_cases e:k=j
  ·have:=ready_to2 hB hb (fun e2=>absurd (e2.symm.trans e) hne) hk
   rw [wb.1] at this;cases this
  ·have:=ready_to2 hA ha (fun e2=>absurd e2 e) hk
   rw [wa.1] at this;cases this
 | succ fuel ih =>
  intro L LA LB a w ha hb hi hj wa wb
  refine ⟨fun hr=>wa.1 (ready_nil2 hA ha hr),fun k hk=>?_⟩
  have hlt:=ready_lt hk
  have hs:(L.setIfInBounds k true).getD k false=true:=by simp [Array.getD_eq_getD_getElem?,show k<L.size by rw [ha.s1];exact hlt]
  have hso:∀ q,k≠q→(L.setIfInBounds k true).getD q false=L.getD q false:=fun q e=>by
   simp only [Array.getD_eq_getD_getElem?]
   rw [Array.getElem?_setIfInBounds_ne e]
  by_cases e1:k=i
  ·subst e1
   exact wpOp_mono (fun a' w' hw'=>wpAny_one2 hA fuel _ _ a' w' (ha.put hA hlt) (.inl hs) hw') (wpOp_to2 hA hlt (wa.2 _ (ready_to2 hA ha (fun e=>absurd e hne) hk)))
  ·by_cases e2:k=j
   ·subst e2
    exact wpOp_mono (fun a' w' hw'=>wpAny_one2 hB fuel _ _ a' w' (hb.put hB hlt) (.inl hs) hw') (wpOp_to2 hB hlt (wb.2 _ (ready_to2 hB hb (fun e=>absurd e e1) hk)))
   ·have t:=hA.tm k _ (Array.getElem?_eq_getElem hlt)
    refine wpOp_mono (fun a' w' hw'=>ih _ _ _ a' w' (ha.put hA hlt) (hb.put hB hlt) ((hso i e1).trans hi) ((hso j e2).trans hj) hw'.1 hw'.2)
     (wpOp_and2 hlt t.1 t.2.1 (wpOp_to2 hA hlt (wa.2 _ (ready_to2 hA ha (fun e=>absurd e e2) hk))) (wpOp_to2 hB hlt (wb.2 _ (ready_to2 hB hb (fun e=>absurd e e1) hk))))
theorem WA.either2 {C:Cx} {σ:St} {Q:Exit→St→Prop} (hA:Laid2 ops A π ρ i j) (hB:Laid2 ops B π' ρ' j i) (hne:i≠j) (h1:WA P C A σ Q) (h2:WA P C B σ Q):WA P C ops σ Q:=by
 intro G a w ok
 have r:∀ (n p:Nat),(Array.replicate n false).getD p false=false:=fun n p=>by
  simp only [Array.getD_eq_getD_getElem?,Array.getElem?_replicate];split<;>rfl
 have ag:∀ (π:Nat→Nat),Agr2 ops.size π (Array.replicate ops.size false) (Array.replicate ops.size false):=fun π=>⟨by simp,by simp,fun p _=>by rw [r,r]⟩
 have x:=h1 G a w ok
 have y:=h2 G a w ok
 rw [hA.sz] at x
 rw [hB.sz] at y
 exact wpAny_both2 hA hB hne _ _ _ _ a _ (ag π) (ag π') (r _ _) (r _ _) x y
end
def reoB2 (L:List Oper)(π ρ:List Nat)(i j:Nat):Bool :=
 (List.range L.length).all (fun p=>Nat.blt (π.getD p 0) L.length && Nat.beq (ρ.getD (π.getD p 0) 0) p && Nat.blt (ρ.getD p 0) L.length && Nat.beq (π.getD (ρ.getD p 0) 0) p) && Nat.blt i L.length && Nat.blt j L.length &&
  L.all (fun o=>tame2 o.op && o.guard.isNone && o.after.toList.all fun e=>Nat.blt e.on L.length)
theorem laid_reo2 {L:List Oper} {π ρ:List Nat} {i j:Nat} (h:reoB2 L π ρ i j=true):Laid2 L.toArray (reo L π ρ i j).toArray (fun p=>π.getD p 0) (fun p=>ρ.getD p 0) i j:=by
 unfold reoB2 at h
 simp only [Bool.and_eq_true,List.all_eq_true,List.mem_range] at h
 obtain ⟨⟨⟨hp,hi⟩,hj⟩,ho⟩:=h
 refine ⟨by simp [reo],fun p hq=>?_,fun p hq=>?_,fun p hq=>?_,fun p hq=>?_,by simpa using of_blt hi,by simpa using of_blt hj,fun p o hpo=>?_,fun p o hpo=>?_⟩
 ·simpa using of_blt (hp p (by simpa using hq)).1.1.1
 ·exact Nat.eq_of_beq_eq_true (hp p (by simpa using hq)).1.1.2
 ·simpa using of_blt (hp p (by simpa using hq)).1.2
 ·exact Nat.eq_of_beq_eq_true (hp p (by simpa using hq)).2
 ·have hpo':L[p]?=some o:=by simpa using hpo
  have hlt:p<L.length:=(List.getElem?_eq_some_iff.1 hpo').1
  have h1:=(hp p hlt).1.1
  have hg:L.getD p default=o:=by rw [List.getD_eq_getElem?_getD,hpo'];rfl
  refine ⟨(aft π i j p o).toArray,?_,fun e he hb=>?_,fun e' he' hb'=>?_⟩
  ·have hr:ρ.getD (π.getD p 0) 0=p:=Nat.eq_of_beq_eq_true h1.2
   have h3:(reo L π ρ i j).toArray[π.getD p 0]?=some { L.getD (ρ.getD (π.getD p 0) 0) default with after:=(aft π i j (ρ.getD (π.getD p 0) 0) (L.getD (ρ.getD (π.getD p 0) 0) default)).toArray }:=by
    rw [List.getElem?_toArray]
    unfold reo
    rw [List.getElem?_map,List.getElem?_range (of_blt h1.1)]
    rfl
   rw [h3,hr,hg]
  ·have he1:=List.mem_toArray.1 he
   rcases List.mem_append.1 he1 with h4|h4
   ·obtain ⟨e',h5,rfl⟩:=List.mem_map.1 h4
    obtain ⟨h6,h7⟩:=List.mem_filter.1 h5
    exact .inl ⟨e',by simpa using h6,h7,rfl⟩
   ·cases hb2:Nat.beq p j with
    | false=>rw [hb2] at h4;cases h4
    | true =>
     rw [hb2] at h4
     have h5:e∈[(⟨π.getD i 0,.data⟩:Edge)]:=h4
     rw [List.mem_singleton] at h5
     subst h5
     exact .inr ⟨Nat.eq_of_beq_eq_true hb2,rfl⟩
  ·refine ⟨⟨π.getD e'.on 0,.data⟩,List.mem_toArray.2 (List.mem_append.2 (.inl (List.mem_map.2 ⟨e',List.mem_filter.2 ⟨by simpa using he',hb'⟩,rfl⟩))),rfl,rfl⟩
 ·have hpo':L[p]?=some o:=by simpa using hpo
  have:=ho o (List.mem_of_getElem? hpo')
  refine ⟨this.1.1,?_,fun e he=>?_⟩
  ·cases hgd:o.guard with
   | none=>rfl
   | some g=>have h8:=this.1.2;rw [hgd] at h8;cases h8
  ·simpa using of_blt (this.2 e (by simpa using he))
section
variable {P:Program} {C:Cx} {σ:St} {Q:Exit→St→Prop}
theorem WA.eitherL2 {L:List Oper} (π ρ π' ρ':List Nat) (i j:Nat) (hA:reoB2 L π ρ i j=true) (hB:reoB2 L π' ρ' j i=true) (hne:Nat.beq i j=false) (h1:WA P C (reo L π ρ i j).toArray σ Q) (h2:WA P C (reo L π' ρ' j i).toArray σ Q):WA P C L.toArray σ Q :=
 WA.either2 (laid_reo2 hA) (laid_reo2 hB) (fun e=>by rw [e,Nat.beq_refl] at hne;cases hne) h1 h2
end
end
section
open Go.RowKit
theorem insCopyOO_FS (cs:List (Int×Int×Bool)) (st:List Int) (h1:cs.length≤64) (h2:st.length≤64):Cto truB 0 Tryz.prog 35 [.ag [.ls 3 (cs.map eCrs),.ls 1 (st.map eInt)]] [] 0 (.ag [.sl 0,.sl 2])
  [(0,.row 70 3 (cs.map eCrs)),(1,.box 26 [.sl 0,.sl 2]),(2,.row 3 1 (st.map eInt))] 3:=by
 have hCl:(cs.map eCrs).length=cs.length:=List.length_map _
 have hSl:(st.map eInt).length=st.length:=List.length_map _
 obtain ⟨CS,hCS⟩:∃ z,cs.map eCrs=z:=⟨_,rfl⟩
 obtain ⟨ST,hST⟩:∃ z,st.map eInt=z:=⟨_,rfl⟩
 rw [hCS] at hCl ⊢
 rw [hST] at hSl ⊢
 refine Cto.intro truS Tryz.func35 rfl Tryz.ntmps35 (Nat.le_of_ble_eq_true rfl) rfl fun w0 F0 fp pg hB=>?_
 dsimp only [number,Nat.reduceAdd]
 repeat refine W.go rfl ?_
 refine (?_:W _ _ _ _ _)
 refine W.of_wa zqk ?_
 refine WA.eitherL2 [0,1,2,3,4,5,6,7,8,9] [0,1,2,3,4,5,6,7,8,9] [0,1,2,4,3,5,6,7,8,9] [0,1,2,4,3,5,6,7,8,9] 3 4 zqk zqk rfl ?_ ?_
 ·refine WA.dt [true,false,false,true,true,false,false,true,true,true] [0] [0,1] 9 zqk zqk zqk ⟨rfl,trivial⟩ ⟨rfl,rfl,trivial⟩ ?_
  refine DTK.bd rfl rfl rfl ⟨rfl,trivial⟩ (fun _=>⟨rfl,rfl,trivial⟩) ?_
  refine DTK.st rfl zqk rfl ?_
  refine DTK.st rfl zqk rfl ?_
  refine DTK.ap rfl rfl (by simp;omega) ⟨rfl,trivial⟩ (fun _=>⟨rfl,rfl,trivial⟩) ?_
  refine DTK.bd rfl rfl rfl ⟨rfl,trivial⟩ (fun _=>⟨rfl,rfl,trivial⟩) ?_
  refine DTK.st rfl zqk rfl ?_
  refine DTK.st rfl zqk rfl ?_
  refine DTK.ap rfl rfl (by simp;omega) ⟨rfl,trivial⟩ (fun _=>⟨rfl,rfl,trivial⟩) ?_
  refine yDTK_bs rfl rfl rfl rfl rfl rfl ⟨rfl,trivial⟩ (fun _=>⟨rfl,rfl,trivial⟩) ?_
  refine DTK.sto rfl rfl rfl rfl rfl rfl rfl rfl rfl rfl rfl rfl rfl rfl ⟨rfl,trivial⟩ (fun h=>by cases h) ?_
  refine DTK.nil ?_
  refine W.tr (σ':=⟨[(2,.pt 1 0 0)],[(0,.row 70 3 CS),(1,.box 26 [.sl 0,.sl 2]),(2,.row 3 1 ST)],3⟩) (zqt (fun q=>bif Nat.beq q 0 then 3 else bif Nat.beq q 2 then 5 else q)) ?_
  exact W.ret (finM rfl rfl rfl rfl rfl)
 ·refine WA.eitherL2 [0,1,2,3,4,5,6,7,8,9] [0,1,2,3,4,5,6,7,8,9] [1,2,3,0,4,5,6,7,8,9] [3,0,1,2,4,5,6,7,8,9] 0 3 zqk zqk rfl ?_ ?_
  ·refine WA.dt [true,false,false,true,true,false,false,true,true,true] [0] [0,1] 9 zqk zqk zqk ⟨rfl,trivial⟩ ⟨rfl,rfl,trivial⟩ ?_
   refine DTK.bd rfl rfl rfl ⟨rfl,trivial⟩ (fun _=>⟨rfl,rfl,trivial⟩) ?_
   refine DTK.st rfl zqk rfl ?_
   refine DTK.st rfl zqk rfl ?_
   refine DTK.bd rfl rfl rfl ⟨rfl,trivial⟩ (fun _=>⟨rfl,rfl,trivial⟩) ?_
   refine DTK.ap rfl rfl (by simp;omega) ⟨rfl,trivial⟩ (fun _=>⟨rfl,rfl,trivial⟩) ?_
   refine DTK.st rfl zqk rfl ?_
   refine DTK.st rfl zqk rfl ?_
   refine DTK.ap rfl rfl (by simp;omega) ⟨rfl,trivial⟩ (fun _=>⟨rfl,rfl,trivial⟩) ?_
   refine yDTK_bs rfl rfl rfl rfl rfl rfl ⟨rfl,trivial⟩ (fun _=>⟨rfl,rfl,trivial⟩) ?_
   refine DTK.sto rfl rfl rfl rfl rfl rfl rfl rfl rfl rfl rfl rfl rfl rfl ⟨rfl,trivial⟩ (fun h=>by cases h) ?_
   refine DTK.nil ?_
   refine W.tr (σ':=⟨[(2,.pt 1 0 0)],[(0,.row 70 3 CS),(1,.box 26 [.sl 0,.sl 2]),(2,.row 3 1 ST)],3⟩) (zqt (fun q=>bif Nat.beq q 0 then 4 else bif Nat.beq q 2 then 5 else q)) ?_
   exact W.ret (finM rfl rfl rfl rfl rfl)
  ·refine WA.dt [true,true,false,false,true,false,false,true,true,true] [0] [0,1] 9 zqk zqk zqk ⟨rfl,trivial⟩ ⟨rfl,rfl,trivial⟩ ?_
   refine DTK.bd rfl rfl rfl ⟨rfl,trivial⟩ (fun _=>⟨rfl,rfl,trivial⟩) ?_
   refine DTK.bd rfl rfl rfl ⟨rfl,trivial⟩ (fun _=>⟨rfl,rfl,trivial⟩) ?_
   refine DTK.st rfl zqk rfl ?_
   refine DTK.st rfl zqk rfl ?_
   refine DTK.ap rfl rfl (by simp;omega) ⟨rfl,trivial⟩ (fun _=>⟨rfl,rfl,trivial⟩) ?_
   refine DTK.st rfl zqk rfl ?_
   refine DTK.st rfl zqk rfl ?_
   refine DTK.ap rfl rfl (by simp;omega) ⟨rfl,trivial⟩ (fun _=>⟨rfl,rfl,trivial⟩) ?_
   refine yDTK_bs rfl rfl rfl rfl rfl rfl ⟨rfl,trivial⟩ (fun _=>⟨rfl,rfl,trivial⟩) ?_
   refine DTK.sto rfl rfl rfl rfl rfl rfl rfl rfl rfl rfl rfl rfl rfl rfl ⟨rfl,trivial⟩ (fun h=>by cases h) ?_
   refine DTK.nil ?_
   refine W.tr (σ':=⟨[(2,.pt 1 0 0)],[(0,.row 70 3 CS),(1,.box 26 [.sl 0,.sl 2]),(2,.row 3 1 ST)],3⟩) (zqt (fun q=>bif Nat.beq q 0 then 4 else bif Nat.beq q 2 then 5 else q)) ?_
   exact W.ret (finM rfl rfl rfl rfl rfl)
theorem yrInsCheck_FS (cs:List (Int×Int×Bool))(st:List Int):Ctr Tryz.prog 69 [.ag (eIns cs st)] (.sc (.int .i64 (insE cs st))) :=
 yOfIns (post:=[]) rfl (fun _=>.sc _) fun w A1 A2 c1 c2 hI=>rInsCheck A1 A2 cs st cs.length st.length c1 c2 w hI rfl rfl
end
end Go.Proofs.YtaeelcfjkhfpkaaGreat
