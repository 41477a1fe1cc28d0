/- piece.Measures. -/
import Derived.Test.YtgelfflighgajaaGreatDoorMsPSq
set_option maxHeartbeats 8000000
set_option maxRecDepth 100000
set_option linter.unusedVariables false
set_option linter.unusedSimpArgs false
namespace Go.Proofs.YtgelfflighgajaaGreatDoor
open Go.RowKit Go.Shelf
attribute [local go_sem]Oper.semAt_some
attribute [-go_sem]Builtin.append_
theorem Tryz.infoMea:(Tryz.prog.info? 185).map (fun i=>(i.zero,i.size,i.bytes))=some (some (.agg #[.int .i64 0,.int .i64 0,.int .i64 0]),3,24):=by kernel_rfl
theorem Tryz.underMea:Tryz.prog.underlying 181=some (.slice 185):=by kernel_rfl
def MsI (w1:World)(evs:List Ev)(k:Nat)(W:World):Prop:=(∃ v,Boxed W w1.heap.size 181 v∧W.ownsRow w1.heap.size 185 3 v (mea evs k).length (mCells (mea evs k))∧True)∧Below w1.heap.size w1 W
theorem msI_own (w1:World) (evs:List Ev) (B:Nat) (hB:w1.heap.size≤B):OwnFrom B (MsI w1 evs) :=
 OwnFrom.and (Own.from (holdsRow_own w1.heap.size w1.heap.size 181 185 3 (fun k=>(mea evs k).length) (fun k=>mCells (mea evs k)) (fun _ _=>True)) _) (ownFrom_below (Nat.le_refl _) hB)
theorem ms_grown {w1 W W2:World} {evs:List Ev} {k:Nat} {l:List (Int×Int×Int)} {x:Int×Int×Int} {g cap:Nat} {T:Int} {a:Act} (hT:frc 0 (evs.take (k+1))=T) (hl:(if newM evs k then mea evs k++[((k:Int),0,0)] else mea evs k)=l++[x])
  (hv:Boxed W2 w1.heap.size 181 (.slice (some ⟨g,0,none⟩) (l.length+1) cap)) (hrow:W2.ownsRow w1.heap.size 185 3 (.slice (some ⟨g,0,none⟩) (l.length+1) cap) (l.length+1) (mCells (l++[x])))
  (hB:Below w1.heap.size w1 W) (hk:KeepsOthers W W2) (hb:Below w1.heap.size W W2) :
  rngPost w1.heap.size (MsI w1 evs) k W .normal a ((W2.setCell ⟨g,l.length*3+1,none⟩ (.int .i64 (x.2.1+1))).setCell ⟨g,l.length*3+2,none⟩ (.int .i64 (x.2.2+T))):=by
 have hne:=hv.not_row (by decide) hrow
 obtain ⟨r1,g1⟩:=hrow.stored (l.length*3+1) (.int .i64 (x.2.1+1))
 rw [mCells_set1] at r1
 obtain ⟨r2,g2⟩:=r1.stored (l.length*3+2) (.int .i64 (x.2.2+T))
 rw [mCells_set2 l (x.1,x.2.1+1,x.2.2)] at r2
 have hm:mea evs (k+1)=l++[(x.1,x.2.1+1,x.2.2+T)]:=by
  show bumpM (frc 0 (evs.take (k+1))) _=_
  rw [hT,hl,bumpM_snoc]
 have hg:w1.heap.size≤g:=by
  rcases hrow.2 with⟨h,_⟩|⟨g',cap',cur,h,hb,_⟩
  ·cases h
  ·cases h;exact hb
 have hb2:Below w1.heap.size W ((W2.setCell ⟨g,l.length*3+1,none⟩ (.int .i64 (x.2.1+1))).setCell ⟨g,l.length*3+2,none⟩ (.int .i64 (x.2.2+T))):=(hb.setCell (p:=⟨g,l.length*3+1,none⟩) hg _).setCell (p:=⟨g,l.length*3+2,none⟩) hg _
 refine ⟨(hk.trans (KeepsOthers.setCell _ _ _)).trans (KeepsOthers.setCell _ _ _),hb2,⟨_,(hv.kept g1 hne).kept g2 hne,?_,trivial⟩,hB.trans hb2⟩
 rw [hm]
 simpa using r2
theorem pMeasures_ok (M:PM) (p:Pce) (w:World) (hP:PcAt w w.heap.size M p) (hO:PcOk p) (h0:pceE p=0):Calls Tryz.prog 112 #[pcValue M p] w fun e w' =>
  ∃ v,e=.returned (.tuple #[v,.int .i64 0])∧w'.ownsRow w.heap.size 185 3 v (mea p.evs p.evs.length).length (mCells (mea p.evs p.evs.length))∧Below w.heap.size w w':=by
 have hC:=fun (w':World) (hb:Below w.heap.size w w')=>pCheck_any M p w' (hP.after hb) hO
 rw [h0] at hC
 have hn3:=hO.n3
 have hT:=fun w'=>timed_any M p w'
 obtain ⟨A1,A2,A3,c1,c2,c3⟩:=M
 obtain ⟨n1,hn1⟩:∃ n,p.cs.length=n:=⟨_,rfl⟩
 obtain ⟨n2,hn2⟩:∃ n,p.st.length=n:=⟨_,rfl⟩
 obtain ⟨n3,hnn⟩:∃ n,p.evs.length=n:=⟨_,rfl⟩
 unfold pcValue at *
 simp only at *
 rw [hn1,hn2,hnn] at hC hT
 rw [hnn] at hn3
 rw [hn1,hn2,hnn]
 have HC:=Lib.hid hC
 have HT:=Lib.hid hT
 have HP:=Lib.hid hP
 have HN:=Lib.hid hnn
 obtain ⟨i0,hi,hz0,hz1,hz2⟩:=info_parts Tryz.infoMea
 clear hC hT hP hnn hn1 hn2 hO h0
 refine (callsIn_wide (n:=4)).1 ?_
 refine callsIn_of_wp_marks Tryz.func112 rfl trivial ?_ rfl
 simp only [Tryz.ntmps112,List.size_toArray,List.length_cons,List.length_nil,Nat.reduceAdd,Nat.reduceSub,Array.replicate_succ,Array.replicate_zero,List.push_toArray,List.append_toArray,List.nil_append,List.cons_append]
 gi_wp2_with (first
  | (refine ⟨trivial,?_⟩;gi_at_call 52;refine (callsIn_wide.2 (HC.out _ zqb)).mono ?_;rintro e' w1 ⟨rfl,hb1⟩;have k1:=(Blk.new _ _ _).after hb1;have x0:w1.cell? ⟨w.heap.size,0,none⟩=some (.slice A1 n1 c1):=k1.cell 0;have x1:w1.cell? ⟨w.heap.size,1,none⟩=some (.slice A2 n2 c2):=k1.cell 1;have x2:w1.cell? ⟨w.heap.size,2,none⟩=some (.slice A3 n3 c3):=k1.cell 2;have l1:w.heap.size < w1.heap.size:=k1.lt;have K1:=Lib.hid k1;clear k1)
  | (refine ⟨trivial,?_⟩;gi_at_call 173;refine (callsIn_wide.2 (HT.out _)).mono ?_;rintro e' w2 ⟨rfl,rfl⟩))
 have hB0:Below w.heap.size w w1:=((Below.refl _ w).alloc (Nat.le_refl _) _).trans (hb1.mono (by simp))
 obtain ⟨W0,hW0⟩:∃ W0,(w1.alloc (Obj.cells #[Value.slice none 0 0] 181)).alloc (Obj.cells #[Value.slice A1 n1 c1,Value.slice A2 n2 c2,Value.slice A3 n3 c3] 28)=W0:=⟨_,rfl⟩
 have hB3:Below w1.heap.size w1 W0:=by rw [← hW0];exact ((Below.refl _ w1).alloc (Nat.le_refl _) _).alloc (by simp) _
 have hs3:w1.heap.size+2=W0.heap.size:=by rw [← hW0];simp
 have kb:Blk W0 (w1.heap.size+1) 28 #[Value.slice A1 n1 c1,Value.slice A2 n2 c2,Value.slice A3 n3 c3]:=by
  have:=Blk.new (w1.alloc (Obj.cells #[Value.slice none 0 0] 181)) 28 #[Value.slice A1 n1 c1,Value.slice A2 n2 c2,Value.slice A3 n3 c3]
  rwa [World.size_alloc,hW0] at this
 have h00:MsI w1 p.evs 0 W0:=by
  refine ⟨⟨.slice none 0 0,?_,⟨rfl,.inl ⟨rfl,rfl⟩⟩,trivial⟩,hB3⟩
  rw [← hW0]
  exact (Boxed.new w1 181 (.slice none 0 0)).alloc _
 rw [hW0]
 refine wp_range (n:=4) (gf:=212) (lb:=#[Value.pointer (some ⟨w1.heap.size+1,0,none⟩)]) rfl (enters_of Tryz.func212 (by kernel_rfl) rfl)
  (encs:=fun k=>#[.int .i64 (k:Int),.int .i64 (frc 0 (p.evs.take (k+1)))]) (len:=n3) (n₀:=w1.heap.size) (by omega)
  (fun l J W hW hJ hY h0=>timed1_in 3 (by omega) l (w1.heap.size+1) w1.heap.size n3 c3 A3 p.evs HN.out hn3 _ J hJ hY W (by have:=hW.size;omega)
   ((hW.cell (p:=⟨w1.heap.size+1,2,none⟩) (by simp;omega)).trans (kb.cell 2))
   (((HP.out.2.1.below (hB0.trans (hB3.mono hB0.size))).below (hW.mono (by omega))).more hB0.size) h0)
  (fun _=>rfl)
  (MsI w1 p.evs) (msI_own w1 p.evs _ (by omega)) h00
  (fun k=>{ tmps:=#[Value.agg #[Value.slice A1 n1 c1,Value.slice A2 n2 c2,Value.slice A3 n3 c3],
     Value.pointer (some { block:=w.heap.size,off:=0 }),Value.slice none 0 0,Value.int IntKind.i64 0,
     Value.int IntKind.i64 0,Value.pointer (some { block:=w1.heap.size,off:=0 }),.int .i64 (k:Int),.int .i64 (frc 0 (p.evs.take (k+1))),undef,
     Value.agg #[Value.slice A1 n1 c1,Value.slice A2 n2 c2,Value.slice A3 n3 c3],Value.int IntKind.i64 0,
     Value.int IntKind.i64 0,Value.bool false,undef,
     Value.agg #[Value.slice A1 n1 c1,Value.slice A2 n2 c2,Value.slice A3 n3 c3],
     Value.func (Fn.func 212) #[] #[Value.pointer (some { block:=w1.heap.size+1,off:=0 })],.int .i64 (k:Int),
     .int .i64 (frc 0 (p.evs.take (k+1))),undef,undef,undef,undef,undef,undef,undef,undef,undef,undef,undef,undef,undef,undef,undef,undef,undef,undef,undef,undef,undef,undef,undef,undef,undef,undef,undef,undef,undef,undef,undef,undef,undef,undef,undef,undef],defers:=[] }) ?assign ?body ?done
 case assign =>
  intro l k W K hK
  gi_wp2
  exact hK
 case body =>
  rintro l0 k W ⟨⟨v,hv,hrow,_⟩,hB⟩ hlt
  have hk2:k < p.evs.length:=by have:=HN.out;omega
  obtain ⟨ad,S,c',hA,hb,e0,_⟩:=((HP.out.2.1.below hB0).more hB0.size|>.below hB).ev hk2
  subst hA
  have y2:W.cell? ⟨w.heap.size,2,none⟩=some (.slice (some ad) n3 c3):=(hB.cell (by simpa using l1)).trans x2
  have hlen:=mea_length p.evs k
  obtain ⟨T,hT⟩:∃ T,frc 0 (p.evs.take (k+1))=T:=⟨_,rfl⟩
  rw [hT]
  obtain ⟨bar,hbar⟩:∃ b,p.evs[k].bar=b:=⟨_,rfl⟩
  rw [hbar] at e0
  have hnew:newM p.evs k=(k == 0|| bar):=by unfold newM;rw [List.getElem?_eq_getElem hk2];simp [hbar]
  have hfo:Tryz.prog.follows .mixedOrders=true:=by kernel_rfl
  have hTb:0≤T∧T≤1000:=by rw [← hT];exact frc_le 0 _ ⟨by decide,by decide⟩
  have hwr:wrap64 T=T:=by first|exact Go.IntWalk.i64_in T ⟨by omega,by omega⟩|(unfold wrap64;omega)
  by_cases hN:newM p.evs k=true
  ·-- a new measure
   obtain ⟨m,hm⟩:∃ m,(mea p.evs k).length=m:=⟨_,rfl⟩
   rw [hm] at hrow hlen
   have hc:=hv.cell
   obtain ⟨v',w4,hrun,r1,r2,r3⟩:=run_append_own (P:=Tryz.prog) (W.alloc (Obj.cells #[.int .i64 k,.int .i64 0,.int .i64 0] 185)) w1.heap.size 181 181 185 i0 (.agg #[.int .i64 0,.int .i64 0,.int .i64 0]) 3 24 Tryz.underMea hi hz0 hz1 hz2 rfl (by decide) v m _ (hrow.alloc _) ⟨W.heap.size,0,none⟩ 1 1 [.int .i64 k,.int .i64 0,.int .i64 0] rfl
    (fun j u h=>by
     have:=cell_of_row (W.alloc (Obj.cells #[.int .i64 k,.int .i64 0,.int .i64 0] 185)) W.heap.size j #[.int .i64 k,.int .i64 0,.int .i64 0] 185 (0,0) (World.alloc_heap_new W _)
     have e:(⟨W.heap.size,0,none⟩:Addr).add j=⟨W.heap.size,j,none⟩:=by
      by_cases hz:j=0
      ·subst hz;rfl
      ·simp [Addr.add,hz]
     rw [e,this];simpa using h) (by simp [Value.oneCell']) (by unfold maxLen;omega) (by omega) (by have:=hB.size;simp;omega)
   obtain ⟨g,cap,rfl⟩:=ownsRow_succ r1
   obtain ⟨hv1,hv2,hr2,hk2',hb2⟩:=hv.appended (tmp:=Obj.cells #[.int .i64 k,.int .i64 0,.int .i64 0] 185) (by decide) hrow hB.size (Nat.le_refl _) r1 ⟨r2.os,r2.tape,r2.output,r2.size,r2.block⟩
   have hc1:=hv1.cell
   have hf1:=hv1.frozen
   have em:mCells (mea p.evs k)++[.int .i64 k,.int .i64 0,.int .i64 0]=mCells (mea p.evs k++[((k:Int),0,0)]):=(mCells_snoc (mea p.evs k) ((k:Int),0,0)).symm
   rw [em] at hr2
   subst hm
   have hf2:=hr2.frozenAt ((mea p.evs k).length*3+1)
   have hf3:=hr2.frozenAt ((mea p.evs k).length*3+2)
   have ha1:=hr2.cellAt ((mea p.evs k).length*3+1) (by omega)
   have ha2:=hr2.cellAt ((mea p.evs k).length*3+2) (by omega)
   rw [mCells_at1] at ha1
   rw [mCells_at2] at ha2
   by_cases hk0:k=0
   ·have q1:((k:Int) == 0)=true:=by simp [hk0]
    clear hk0
    gi_wp2
    rw [← Int.zero_add T]
    exact ms_grown (x:=((k:Int),0,0)) hT (if_pos hN) hv2 hr2 hB hk2' hb2
   ·have q1:((k:Int) == 0)=false:=by simp [hk0]
    have q2:¬ (k:Int)=0:=by omega
    obtain rfl:bar=true:=by rw [hnew] at hN;simpa [hk0] using hN
    clear hk0
    gi_wp2
    rw [← Int.zero_add T]
    exact ms_grown (x:=((k:Int),0,0)) hT (if_pos hN) hv2 hr2 hB hk2' hb2
  ·-- the last one goes on
   have hk0:¬ k=0:=fun e=>hN (by rw [hnew,e];rfl)
   obtain rfl:bar=false:=by
    cases bar with
    | false=>rfl
    | true=>exact absurd (by rw [hnew];simp) hN
   have hne:=mea_ne p.evs k
   rw [if_neg hN] at hne
   obtain ⟨l,x,hlx⟩:∃ l x,mea p.evs k=l++[x]:=⟨_,_,(List.dropLast_concat_getLast hne).symm⟩
   rw [hlx] at hrow
   have hll:(l++[x]).length=l.length+1:=by simp
   rw [hll] at hrow
   obtain ⟨g,cap,rfl⟩:=ownsRow_succ hrow
   have hc:=hv.cell
   have q1:((k:Int) == 0)=false:=by simp [hk0]
   have q2:¬ (k:Int)=0:=by omega
   clear hk0
   have hf2:=hrow.frozenAt (l.length*3+1)
   have hf3:=hrow.frozenAt (l.length*3+2)
   have ha1:=hrow.cellAt (l.length*3+1) (by omega)
   have ha2:=hrow.cellAt (l.length*3+2) (by omega)
   rw [mCells_at1] at ha1
   rw [mCells_at2] at ha2
   have hbd:=mea_bd p.evs k x (by rw [hlx];simp)
   rw [hlx,hll] at hlen
   obtain ⟨x1,x2,x3⟩:=x
   simp only at ha1 ha2 hbd
   obtain ⟨_,⟨b1,b2⟩,b3,b4⟩:=hbd
   have b5:x2+1≤1000:=by omega
   have b6:x3+T≤1000000:=by omega
   have b7:l.length≤1000:=by omega
   have hw2:wrap64 (x3+T)=x3+T:=by unfold wrap64;omega
   have hw1:wrap64 (x2+1)=x2+1:=by unfold wrap64;omega
   gi_wp2
   exact ms_grown hT ((if_neg hN).trans hlx) hv hrow hB (KeepsOthers.refl _) (Below.refl _ _)
 case done =>
  rintro D W hD ⟨⟨v,hv,hrow,_⟩,hB⟩ hK
  have hc:=hv.cell
  gi_wp2
  refine ⟨by simp,.inl ⟨_,_,rfl,run_takeDeferred hK,?_⟩⟩
  refine ⟨_,results_tmp2 rfl _ _ _,v,rfl,?_,?_⟩
  ·exact ownsRow_putObj (own_weaken hrow (by omega)) _ hK rfl
  ·exact (hB0.trans (hB.mono (by omega))).trans (belowK_b (w:=w) (Nat.le_refl _) W D _ _ (by omega) hK rfl rfl)
end Go.Proofs.YtgelfflighgajaaGreatDoor
