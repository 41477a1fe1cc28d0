/- piece.Onsets. -/
import Derived.Test.YtkgnmddakiagbaaGreatDoorBwWq
set_option linter.unusedVariables false
set_option linter.unusedSimpArgs false
namespace Go.Proofs.YtkgnmddakiagbaaGreatDoor
open Go.RowKit Go.Shelf
set_option maxHeartbeats 8000000
set_option maxRecDepth 100000
attribute [local go_sem] Oper.semAt_some
attribute [-go_sem] Builtin.append_
theorem tkAll2:((List.range' 1 7).all fun v=>[(false,false),(true,false),(false,true)].all fun p=>decide (tkV (v:Nat) p.1 p.2≤1000))=true:=by decide +kernel
theorem tkV_le (v:Int) (d t:Bool):0≤tkV v d t∧tkV v d t≤1000:=by
 by_cases hb:v<1∨7<v∨(d && t)=true
 ·have:tkV v d t=0:=if_pos hb
  omega
 ·have hv:1≤v∧v≤7:=by omega
  have hdt:(d && t)=false:=by cases h:(d && t) with|false=>rfl|true=>exact absurd (.inr (.inr h)) hb
  have h0:=tkV_pos v d t hv hdt
  obtain ⟨n,rfl⟩:∃ n:Nat,v=n:=⟨v.toNat,by omega⟩
  have h1:=List.all_eq_true.1 tkAll2 n (by rw [List.mem_range'_1];omega)
  have h2:=List.all_eq_true.1 h1 (d,t) (by cases d<;>cases t<;>simp_all)
  have h3:=of_decide_eq_true h2
  exact ⟨by omega,h3⟩
theorem frc_le:∀ (t:Int) (l:List Ev),0≤t∧t≤1000→0≤frc t l∧frc t l≤1000
 | t,[],h=>h
 | t,e::r,h=>by
  unfold frc
  exact frc_le _ r (by split<;>first|exact tkV_le _ _ _|exact h)
def onsAt (evs:List Ev):Nat→Int
 | 0=>0
 | k+1=>onsAt evs k+frc 0 (evs.take (k+1))
theorem onsAt_le (evs:List Ev):∀ k,0≤onsAt evs k∧onsAt evs k≤1000*k
 | 0=>⟨Int.le_refl 0,Int.le_refl 0⟩
 | k+1=>by have h:=onsAt_le evs k;have h2:=frc_le 0 (evs.take (k+1)) (by decide);unfold onsAt;omega
def onsL (evs:List Ev) (k:Nat):List Int:=(List.range (k+1)).map (onsAt evs)
theorem onsL_succ (evs:List Ev) (k:Nat):onsL evs (k+1)=onsL evs k++[onsAt evs (k+1)]:=by simp [onsL,List.range_succ]
theorem onsL_length (evs:List Ev) (k:Nat):(onsL evs k).length=k+1:=by simp [onsL]
theorem Tryz.infoInt:(Tryz.prog.info? 3).map (fun i=>(i.zero,i.size,i.bytes))=some (some (.int .i64 0),1,8):=by kernel_rfl
theorem pOnsets_ok (M:PM) (p:Pce) (w:World) (hP:PcAt w w.heap.size M p) (hO:PcOk p) (h0:pceE p=0):Calls Tryz.prog 72 #[pcValue M p] w fun e w' =>
  ∃ v,e=.returned (.tuple #[v,.int .i64 0])∧w'.ownsRow w.heap.size 3 1 v (p.evs.length+1) ((onsL p.evs p.evs.length).map fun x=>.int .i64 x)∧Below w.heap.size w w':=by
 have hC:=fun (w':World) (hb:Below w.heap.size w w')=>pCheck_any M p w' (hP.after hb) hO
 rw [h0] at hC
 have hn3:=hO.n3
 have hT:=fun w'=>timed_any M p w'
 obtain ⟨A1,A2,A3,c1,c2,c3⟩:=M
 obtain ⟨n1,hn1⟩:∃ n,p.cs.length=n:=⟨_,rfl⟩
 obtain ⟨n2,hn2⟩:∃ n,p.st.length=n:=⟨_,rfl⟩
 obtain ⟨n3,hnn⟩:∃ n,p.evs.length=n:=⟨_,rfl⟩
 unfold pcValue at *
 simp only at *
 rw [hn1,hn2,hnn] at hC hT
 rw [hnn] at hn3
 rw [hn1,hn2,hnn]
 have HC:=Lib.hid hC
 have HT:=Lib.hid hT
 have HP:=Lib.hid hP
 have HN:=Lib.hid hnn
 obtain ⟨i0,hi,hz0,hz1,hz2⟩:=info_parts Tryz.infoInt
 clear hC hT hP hnn hn1 hn2 hO h0
 refine (callsIn_wide (n:=4)).1 ?_
 refine callsIn_of_wp_marks Tryz.func72 rfl trivial ?_ rfl
 simp only [Tryz.ntmps72,List.size_toArray,List.length_cons,List.length_nil,Nat.reduceAdd,Nat.reduceSub,Array.replicate_succ,Array.replicate_zero,List.push_toArray,List.append_toArray,List.nil_append,List.cons_append]
 gi_wp2_with (first
  | (refine ⟨trivial,?_⟩;gi_at_call 45;refine (callsIn_wide.2 (HC.out _ (by repeat (first|exact Below.refl _ _|assumption|refine bel_drewN ?_ _|refine Below.drew ?_|refine bel_alloc ?_ _|refine Below.setCell ?_ (by first|omega|(simp;done)|(simp;omega)) _|refine bel_step ?_ (by assumption))))).mono ?_;rintro e' w1 ⟨rfl,hb1⟩;have k1:=(Blk.new _ _ _).after hb1;have x0:w1.cell? ⟨w.heap.size,0,none⟩=some (.slice A1 n1 c1):=k1.cell 0;have x1:w1.cell? ⟨w.heap.size,1,none⟩=some (.slice A2 n2 c2):=k1.cell 1;have x2:w1.cell? ⟨w.heap.size,2,none⟩=some (.slice A3 n3 c3):=k1.cell 2;have l1:w.heap.size < w1.heap.size:=k1.lt;have K1:=Lib.hid k1;clear k1)
  | (refine ⟨trivial,?_⟩;gi_at_call 97;refine (callsIn_wide.2 (HT.out _)).mono ?_;rintro e' w2 ⟨rfl,rfl⟩))
 have hB0:Below w.heap.size w w1:=((Below.refl _ w).alloc (Nat.le_refl _) _).trans (hb1.mono (by simp))
 have hB3:Below w.heap.size w (((w1.alloc (Obj.cells #[Value.int IntKind.i64 0] 3)).alloc (Obj.cells #[Value.slice (some { block:=w1.heap.size,off:=0 }) 1 1] 24)).alloc (Obj.cells #[Value.slice A1 n1 c1,Value.slice A2 n2 c2,Value.slice A3 n3 c3] 29)):=((hB0.alloc (by omega) _).alloc (by simp;omega) _).alloc (by simp;omega) _
 have kb:Blk (((w1.alloc (Obj.cells #[Value.int IntKind.i64 0] 3)).alloc (Obj.cells #[Value.slice (some { block:=w1.heap.size,off:=0 }) 1 1] 24)).alloc (Obj.cells #[Value.slice A1 n1 c1,Value.slice A2 n2 c2,Value.slice A3 n3 c3] 29)) (w1.heap.size+1+1) 29 #[Value.slice A1 n1 c1,Value.slice A2 n2 c2,Value.slice A3 n3 c3]:=by
  have:=Blk.new ((w1.alloc (Obj.cells #[Value.int IntKind.i64 0] 3)).alloc (Obj.cells #[Value.slice (some { block:=w1.heap.size,off:=0 }) 1 1] 24)) 29 #[Value.slice A1 n1 c1,Value.slice A2 n2 c2,Value.slice A3 n3 c3]
  rwa [World.size_alloc,World.size_alloc] at this
 refine wp_range (n:=4) (gf:=159) (lb:=#[Value.pointer (some ⟨w1.heap.size+1+1,0,none⟩)]) rfl (enters_of Tryz.func159 (by kernel_rfl) rfl)
  (encs:=fun k=>#[.int .i64 (k:Int),.int .i64 (frc 0 (p.evs.take (k+1)))]) (len:=n3) (n₀:=w.heap.size) (by simp;omega)
  (fun l J W hW hJ hY h0=>timed1_in 3 (by omega) l (w1.heap.size+1+1) w.heap.size n3 c3 A3 p.evs HN.out hn3 _ J hJ hY W (by have:=hW.size;simp at this;omega)
   ((hW.cell (p:=⟨w1.heap.size+1+1,2,none⟩) (by simp)).trans (kb.cell 2))
   (HP.out.2.1.below (hB3.trans (hW.mono hB3.size))) h0)
  (fun _=>rfl)
  (fun k W=>(∃ v,Boxed W (w1.heap.size+1) 24 v∧W.ownsRow w.heap.size 3 1 v (k+1) ((onsL p.evs k).map fun x=>.int .i64 x)∧True)∧Below w.heap.size w W)
  (OwnFrom.and (Own.from (holdsRow_own w.heap.size (w1.heap.size+1) 24 3 1 (fun k=>k+1) (fun k=>(onsL p.evs k).map fun x=>Value.int .i64 x) (fun _ _=>True)) _) (ownFrom_below (Nat.le_refl _) (by simp;omega)))
  ⟨⟨.slice (some ⟨w1.heap.size,0,none⟩) 1 1,?_,?_,trivial⟩,hB3⟩
  (fun k=>{ tmps:=#[Value.agg #[Value.slice A1 n1 c1,Value.slice A2 n2 c2,Value.slice A3 n3 c3],
     Value.pointer (some { block:=w.heap.size,off:=0 }),Value.slice none 0 0,Value.int IntKind.i64 0,
     Value.int IntKind.i64 0,Value.pointer (some { block:=w1.heap.size+1,off:=0 }),.int .i64 (k:Int),.int .i64 (frc 0 (p.evs.take (k+1))),
     Value.agg #[Value.slice A1 n1 c1,Value.slice A2 n2 c2,Value.slice A3 n3 c3],Value.int IntKind.i64 0,
     Value.int IntKind.i64 0,Value.bool false,undef,Value.slice (some { block:=w1.heap.size,off:=0 }) 1 1,
     Value.agg #[Value.slice A1 n1 c1,Value.slice A2 n2 c2,Value.slice A3 n3 c3],
     Value.func (Fn.func 159) #[] #[Value.pointer (some { block:=w1.heap.size+1+1,off:=0 })],.int .i64 (k:Int),
     .int .i64 (frc 0 (p.evs.take (k+1))),undef,undef,undef,undef,undef,undef,undef,undef,undef,undef],defers:=[] }) ?assign ?body ?done
 ·have:=Boxed.new (w1.alloc (Obj.cells #[Value.int IntKind.i64 0] 3)) 24 (.slice (some ⟨w1.heap.size,0,none⟩) 1 1)
  rw [World.size_alloc] at this
  exact this.alloc _
 ·refine ((World.ownsRow.alloc ?_ _).alloc _)
  exact ⟨by simp [onsL],.inr ⟨w1.heap.size,1,#[.int .i64 0],rfl,by omega,World.alloc_heap_new _ _,Nat.le_refl _,by decide,rfl,by simp [onsL,onsAt]⟩⟩
 case assign =>
  intro l k W K hK
  gi_wp2
  exact hK
 case body =>
  rintro l k W ⟨⟨v,hv,hrow,_⟩,hB⟩ hlt
  obtain ⟨g,cap,rfl⟩:=ownsRow_succ hrow
  have hc:=hv.cell
  obtain ⟨T,hT⟩:∃ T,frc 0 (p.evs.take (k+1))=T:=⟨_,rfl⟩
  have hx:W.cell? ⟨g,k,none⟩=some (.int .i64 (onsAt p.evs k)):=by
   rw [hrow.cellAt k (by omega)]
   simp [onsL]
  have hbd:=onsAt_le p.evs k
  have hTb:=frc_le 0 (p.evs.take (k+1)) ⟨by decide,by decide⟩
  rw [hT] at hTb
  rw [hT]
  gi_wp2
  have hwr:IntKind.i64.wrap (onsAt p.evs k+T)=onsAt p.evs k+T:=Go.IntWalk.i64_in _ ⟨by omega,by omega⟩
  have hk1:((k:Int) < (k:Int)+1):=by omega
  have hfo:Tryz.prog.follows .mixedOrders=true:=by kernel_rfl
  obtain ⟨v',w4,hrun,r1,r2,r3⟩:=run_append_own (P:=Tryz.prog) ((W.alloc (Obj.cells #[.int .i64 (onsAt p.evs k+T)] 3)).drew) w.heap.size 24 24 3 i0 (.int .i64 0) 1 8 Tryz.underlying24 hi hz0 hz1 hz2 rfl (by decide) _ (k+1) _ (show (W.alloc _).ownsRow _ _ _ _ _ _ from hrow.alloc _) ⟨W.heap.size,0,none⟩ 1 1 [.int .i64 (onsAt p.evs k+T)] rfl (cell_one_new W _ _) (by simp [Value.oneCell']) (by unfold maxLen;omega) (by omega) (by have:=hB.size;simp;omega)
  obtain ⟨g',cap',rfl⟩:=ownsRow_succ r1
  obtain ⟨hv1,hv2,hr2,hk2,hb2⟩:=hv.appended (tmp:=Obj.cells #[.int .i64 (onsAt p.evs k+T)] 3) (by decide) hrow hB.size (by omega) r1 ⟨r2.os,r2.tape,r2.output,r2.size,r2.block⟩
  have hc1:=hv1.cell
  have hlW:=hv.lt
  have hf1:=hv1.frozen
  gi_region_with_o (fail)
  all_goals exact ⟨hk2,hb2,⟨_,hv2,by rw [onsL_succ];simpa [onsAt,hT] using hr2,trivial⟩,hB.trans hb2⟩
 case done =>
  rintro D W hD ⟨⟨v,hv,hrow,_⟩,hB⟩ hK
  have hc:=hv.cell
  gi_wp2
  refine ⟨by simp,.inl ⟨_,_,rfl,run_takeDeferred hK,?_⟩⟩
  refine ⟨_,results_tmp2 rfl _ _ _,v,rfl,?_,hB.trans (belowK_b (w:=w) (Nat.le_refl _) W D _ _ (by simp at hD;omega) hK rfl rfl)⟩
  exact ownsRow_putObj hrow _ hK rfl
end Go.Proofs.YtkgnmddakiagbaaGreatDoor
