/- Books: plain; titles; what is said of a book. -/
import Derived.Test.YtgelfflighgajaaGreatDoorRows
import Derived.ProofKit
import Derived.LaidMore
import Derived.OpenShut
import Derived.Stop.Joined
import Derived.Lib.LaidTab
import Derived.Stop.LaidErr
import Derived.Test.YtgelfflighgajaaGreatDoorEJSq
set_option linter.unusedVariables false
set_option linter.unusedSimpArgs false
namespace Go.Proofs.YtgelfflighgajaaGreatDoor
open Go.ChangeShapes Go.WideShapes Go.ChangeAt Go.RowKit
set_option maxRecDepth 100000
def laidT:List (String×DataW Unit):=[("math/bits.deBruijn32tab",Rows.laid_math_bits_deBruijn32tab),("math/bits.deBruijn64tab",Rows.laid_math_bits_deBruijn64tab),("internal/strconv.uint64pow10",Rows.laid_internal_strconv_uint64pow10),("theorbo/instrument.bases",Rows.laid_theorbo_instrument_bases),("theorbo/instrument.fifths",Rows.laid_theorbo_instrument_fifths)]
theorem ownT:ownKnob Tryz.prog.godebug=none:=by kernel_rfl
theorem tab_of_laid {W:World} (h:laidMetH Tryz.prog laidT W):tabB W (fun p=>W.cell? p):=by
 rw [MakeChecks.laidMetH_plain _ _ _ (by kernel_rfl)] at h
 have h3:=h.tail.tail
 have e1:Lib.TabIs Tryz.prog W "internal/strconv.uint64pow10" .u64 Lib.pow10Tab :=
  Lib.tabIs_of_head (g:=3) (t:=344) (e:=322) (n:=20) (by kernel_rfl) (by kernel_rfl) Tryz.underlying344 Tryz.underlying322 (by kernel_rfl) (by kernel_rfl) h3
 have e2:Lib.TabIs Tryz.prog W "theorbo/instrument.bases" .i64 bsL :=
  Lib.tabIs_of_head (g:=1) (t:=303) (e:=3) (n:=7) (by kernel_rfl) (by kernel_rfl) Tryz.underlying303 Tryz.underlying3 (by kernel_rfl) (by kernel_rfl) h3.tail
 have e3:Lib.TabIs Tryz.prog W "theorbo/instrument.fifths" .i64 ftL :=
  Lib.tabIs_of_head (g:=0) (t:=303) (e:=3) (n:=7) (by kernel_rfl) (by kernel_rfl) Tryz.underlying303 Tryz.underlying3 (by kernel_rfl) (by kernel_rfl) h3.tail.tail
 have get:∀ (l:List Int) (i:Nat) v,l[i]?=some v→i<l.length∧l.getD i 0=v:=fun l i v hv=>by
  obtain ⟨hi,e⟩:=List.getElem?_eq_some_iff.1 hv
  exact ⟨hi,by rw [List.getD_eq_getElem?_getD,hv];rfl⟩
 refine ⟨fun i v hv=>?_,fun i v hv=>?_,e1⟩
 ·obtain ⟨hi,e⟩:=get _ _ _ hv
  rw [← e];exact e3.cell (by kernel_rfl) i hi
 ·obtain ⟨hi,e⟩:=get _ _ _ hv
  rw [← e];exact e2.cell (by kernel_rfl) i hi
theorem door_met (os:Os) (args:Array Value):laidMetH Tryz.prog laidT ((World.doorLaid Tryz.prog 400 os).forCall (fun _ _=>0) ⟨#[],args,[]⟩).memory :=
 laidMetH_of_parts3 (fuel:=8) (laidMet_of_run' 8 (by kernel_rfl) (by kernel_rfl)) (by kernel_rfl) (by kernel_rfl)
end Go.Proofs.YtgelfflighgajaaGreatDoor
namespace Go.Proofs.YtgelfflighgajaaGreatDoor
open Go.RowKit Go.Shelf
set_option maxHeartbeats 8000000
set_option maxRecDepth 100000
attribute [local go_sem] Oper.semAt_some
attribute [-go_sem] Builtin.append_
theorem Tryz.infoMea:(Tryz.prog.info? 185).map (fun i=>(i.zero,i.size,i.bytes))=some (some (.agg #[.int .i64 0,.int .i64 0,.int .i64 0]),3,24):=by kernel_rfl
theorem Tryz.underMea:Tryz.prog.underlying 181=some (.slice 185):=by kernel_rfl
def MsI (w1:World) (evs:List Ev) (k:Nat) (W:World):Prop:=(∃ v,Boxed W w1.heap.size 181 v∧W.ownsRow w1.heap.size 185 3 v (mea evs k).length (mCells (mea evs k))∧True)∧Below w1.heap.size w1 W
theorem msI_own (w1:World) (evs:List Ev) (B:Nat) (hB:w1.heap.size≤B):OwnFrom B (MsI w1 evs) :=
 OwnFrom.and (Own.from (holdsRow_own w1.heap.size w1.heap.size 181 185 3 (fun k=>(mea evs k).length) (fun k=>mCells (mea evs k)) (fun _ _=>True)) _) (ownFrom_below (Nat.le_refl _) hB)
theorem ms_grown {w1 W W2:World} {evs:List Ev} {k:Nat} {l:List (Int×Int×Int)} {x:Int×Int×Int} {g cap:Nat} {T:Int} {a:Act} (hT:frc 0 (evs.take (k+1))=T) (hl:(if newM evs k then mea evs k++[((k:Int),0,0)] else mea evs k)=l++[x])
  (hv:Boxed W2 w1.heap.size 181 (.slice (some ⟨g,0,none⟩) (l.length+1) cap)) (hrow:W2.ownsRow w1.heap.size 185 3 (.slice (some ⟨g,0,none⟩) (l.length+1) cap) (l.length+1) (mCells (l++[x])))
  (hB:Below w1.heap.size w1 W) (hk:KeepsOthers W W2) (hb:Below w1.heap.size W W2) :
  rngPost w1.heap.size (MsI w1 evs) k W .normal a ((W2.setCell ⟨g,l.length*3+1,none⟩ (.int .i64 (x.2.1+1))).setCell ⟨g,l.length*3+2,none⟩ (.int .i64 (x.2.2+T))):=by
 have hne:=hv.not_row (by decide) hrow
 obtain ⟨r1,g1⟩:=hrow.stored (l.length*3+1) (.int .i64 (x.2.1+1))
 rw [mCells_set1] at r1
 obtain ⟨r2,g2⟩:=r1.stored (l.length*3+2) (.int .i64 (x.2.2+T))
 rw [mCells_set2 l (x.1,x.2.1+1,x.2.2)] at r2
 have hm:mea evs (k+1)=l++[(x.1,x.2.1+1,x.2.2+T)]:=by
  show bumpM (frc 0 (evs.take (k+1))) _=_
  rw [hT,hl,bumpM_snoc]
 have hg:w1.heap.size≤g:=by
  rcases hrow.2 with⟨h,_⟩|⟨g',cap',cur,h,hb,_⟩
  ·cases h
  ·cases h;exact hb
 have hb2:Below w1.heap.size W ((W2.setCell ⟨g,l.length*3+1,none⟩ (.int .i64 (x.2.1+1))).setCell ⟨g,l.length*3+2,none⟩ (.int .i64 (x.2.2+T))):=(hb.setCell (p:=⟨g,l.length*3+1,none⟩) hg _).setCell (p:=⟨g,l.length*3+2,none⟩) hg _
 refine ⟨(hk.trans (KeepsOthers.setCell _ _ _)).trans (KeepsOthers.setCell _ _ _),hb2,⟨_,(hv.kept g1 hne).kept g2 hne,?_,trivial⟩,hB.trans hb2⟩
 rw [hm]
 simpa using r2
theorem pMeasures_ok (M:PM) (p:Pce) (w:World) (hP:PcAt w w.heap.size M p) (hO:PcOk p) (h0:pceE p=0):Calls Tryz.prog 112 #[pcValue M p] w fun e w' =>
  ∃ v,e=.returned (.tuple #[v,.int .i64 0])∧w'.ownsRow w.heap.size 185 3 v (mea p.evs p.evs.length).length (mCells (mea p.evs p.evs.length))∧Below w.heap.size w w':=by
 have hC:=fun (w':World) (hb:Below w.heap.size w w')=>pCheck_any M p w' (hP.after hb) hO
 rw [h0] at hC
 have hn3:=hO.n3
 have hT:=fun w'=>timed_any M p w'
 obtain ⟨A1,A2,A3,c1,c2,c3⟩:=M
 obtain ⟨n1,hn1⟩:∃ n,p.cs.length=n:=⟨_,rfl⟩
 obtain ⟨n2,hn2⟩:∃ n,p.st.length=n:=⟨_,rfl⟩
 obtain ⟨n3,hnn⟩:∃ n,p.evs.length=n:=⟨_,rfl⟩
 unfold pcValue at *
 simp only at *
 rw [hn1,hn2,hnn] at hC hT
 rw [hnn] at hn3
 rw [hn1,hn2,hnn]
 have HC:=Lib.hid hC
 have HT:=Lib.hid hT
 have HP:=Lib.hid hP
 have HN:=Lib.hid hnn
 obtain ⟨i0,hi,hz0,hz1,hz2⟩:=info_parts Tryz.infoMea
 clear hC hT hP hnn hn1 hn2 hO h0
 refine (callsIn_wide (n:=4)).1 ?_
 refine callsIn_of_wp_marks Tryz.func112 rfl trivial ?_ rfl
 simp only [Tryz.ntmps112,List.size_toArray,List.length_cons,List.length_nil,Nat.reduceAdd,Nat.reduceSub,Array.replicate_succ,Array.replicate_zero,List.push_toArray,List.append_toArray,List.nil_append,List.cons_append]
 gi_wp2_with (first
  | (refine ⟨trivial,?_⟩;gi_at_call 52;refine (callsIn_wide.2 (HC.out _ (by repeat (first|exact Below.refl _ _|assumption|refine bel_drewN ?_ _|refine Below.drew ?_|refine bel_alloc ?_ _|refine Below.setCell ?_ (by first|omega|(simp;done)|(simp;omega)) _|refine bel_step ?_ (by assumption))))).mono ?_;rintro e' w1 ⟨rfl,hb1⟩;have k1:=(Blk.new _ _ _).after hb1;have x0:w1.cell? ⟨w.heap.size,0,none⟩=some (.slice A1 n1 c1):=k1.cell 0;have x1:w1.cell? ⟨w.heap.size,1,none⟩=some (.slice A2 n2 c2):=k1.cell 1;have x2:w1.cell? ⟨w.heap.size,2,none⟩=some (.slice A3 n3 c3):=k1.cell 2;have l1:w.heap.size < w1.heap.size:=k1.lt;have K1:=Lib.hid k1;clear k1)
  | (refine ⟨trivial,?_⟩;gi_at_call 173;refine (callsIn_wide.2 (HT.out _)).mono ?_;rintro e' w2 ⟨rfl,rfl⟩))
 have hB0:Below w.heap.size w w1:=((Below.refl _ w).alloc (Nat.le_refl _) _).trans (hb1.mono (by simp))
 obtain ⟨W0,hW0⟩:∃ W0,(w1.alloc (Obj.cells #[Value.slice none 0 0] 181)).alloc (Obj.cells #[Value.slice A1 n1 c1,Value.slice A2 n2 c2,Value.slice A3 n3 c3] 28)=W0:=⟨_,rfl⟩
 have hB3:Below w1.heap.size w1 W0:=by rw [← hW0];exact ((Below.refl _ w1).alloc (Nat.le_refl _) _).alloc (by simp) _
 have hs3:w1.heap.size+2=W0.heap.size:=by rw [← hW0];simp
 have kb:Blk W0 (w1.heap.size+1) 28 #[Value.slice A1 n1 c1,Value.slice A2 n2 c2,Value.slice A3 n3 c3]:=by
  have:=Blk.new (w1.alloc (Obj.cells #[Value.slice none 0 0] 181)) 28 #[Value.slice A1 n1 c1,Value.slice A2 n2 c2,Value.slice A3 n3 c3]
  rwa [World.size_alloc,hW0] at this
 have h00:MsI w1 p.evs 0 W0:=by
  refine ⟨⟨.slice none 0 0,?_,⟨rfl,.inl ⟨rfl,rfl⟩⟩,trivial⟩,hB3⟩
  rw [← hW0]
  exact (Boxed.new w1 181 (.slice none 0 0)).alloc _
 rw [hW0]
 refine wp_range (n:=4) (gf:=212) (lb:=#[Value.pointer (some ⟨w1.heap.size+1,0,none⟩)]) rfl (enters_of Tryz.func212 (by kernel_rfl) rfl)
  (encs:=fun k=>#[.int .i64 (k:Int),.int .i64 (frc 0 (p.evs.take (k+1)))]) (len:=n3) (n₀:=w1.heap.size) (by omega)
  (fun l J W hW hJ hY h0=>timed1_in 3 (by omega) l (w1.heap.size+1) w1.heap.size n3 c3 A3 p.evs HN.out hn3 _ J hJ hY W (by have:=hW.size;omega)
   ((hW.cell (p:=⟨w1.heap.size+1,2,none⟩) (by simp;omega)).trans (kb.cell 2))
   (((HP.out.2.1.below (hB0.trans (hB3.mono hB0.size))).below (hW.mono (by omega))).more hB0.size) h0)
  (fun _=>rfl)
  (MsI w1 p.evs) (msI_own w1 p.evs _ (by omega)) h00
  (fun k=>{ tmps:=#[Value.agg #[Value.slice A1 n1 c1,Value.slice A2 n2 c2,Value.slice A3 n3 c3],
     Value.pointer (some { block:=w.heap.size,off:=0 }),Value.slice none 0 0,Value.int IntKind.i64 0,
     Value.int IntKind.i64 0,Value.pointer (some { block:=w1.heap.size,off:=0 }),.int .i64 (k:Int),.int .i64 (frc 0 (p.evs.take (k+1))),undef,
     Value.agg #[Value.slice A1 n1 c1,Value.slice A2 n2 c2,Value.slice A3 n3 c3],Value.int IntKind.i64 0,
     Value.int IntKind.i64 0,Value.bool false,undef,
     Value.agg #[Value.slice A1 n1 c1,Value.slice A2 n2 c2,Value.slice A3 n3 c3],
     Value.func (Fn.func 212) #[] #[Value.pointer (some { block:=w1.heap.size+1,off:=0 })],.int .i64 (k:Int),
     .int .i64 (frc 0 (p.evs.take (k+1))),undef,undef,undef,undef,undef,undef,undef,undef,undef,undef,undef,undef,undef,undef,undef,undef,undef,undef,undef,undef,undef,undef,undef,undef,undef,undef,undef,undef,undef,undef,undef,undef,undef,undef,undef,undef],defers:=[] }) ?assign ?body ?done
 case assign =>
  intro l k W K hK
  gi_wp2
  exact hK
 case body =>
  rintro l0 k W ⟨⟨v,hv,hrow,_⟩,hB⟩ hlt
  have hk2:k < p.evs.length:=by have:=HN.out;omega
  obtain ⟨ad,S,c',hA,hb,e0,_⟩:=((HP.out.2.1.below hB0).more hB0.size |>.below hB).ev hk2
  subst hA
  have y2:W.cell? ⟨w.heap.size,2,none⟩=some (.slice (some ad) n3 c3):=(hB.cell (by simpa using l1)).trans x2
  have hlen:=mea_length p.evs k
  obtain ⟨T,hT⟩:∃ T,frc 0 (p.evs.take (k+1))=T:=⟨_,rfl⟩
  rw [hT]
  obtain ⟨bar,hbar⟩:∃ b,p.evs[k].bar=b:=⟨_,rfl⟩
  rw [hbar] at e0
  have hnew:newM p.evs k=(k == 0 || bar):=by unfold newM;rw [List.getElem?_eq_getElem hk2];simp [hbar]
  have hfo:Tryz.prog.follows .mixedOrders=true:=by kernel_rfl
  have hTb:0≤T∧T≤1000:=by rw [← hT];exact frc_le 0 _ ⟨by decide,by decide⟩
  have hwr:wrap64 T=T:=by first|exact Go.IntWalk.i64_in T ⟨by omega,by omega⟩|(unfold wrap64;omega)
  by_cases hN:newM p.evs k=true
  ·-- a new measure
   obtain ⟨m,hm⟩:∃ m,(mea p.evs k).length=m:=⟨_,rfl⟩
   rw [hm] at hrow hlen
   have hc:=hv.cell
   obtain ⟨v',w4,hrun,r1,r2,r3⟩:=run_append_own (P:=Tryz.prog) (W.alloc (Obj.cells #[.int .i64 k,.int .i64 0,.int .i64 0] 185)) w1.heap.size 181 181 185 i0 (.agg #[.int .i64 0,.int .i64 0,.int .i64 0]) 3 24 Tryz.underMea hi hz0 hz1 hz2 rfl (by decide) v m _ (hrow.alloc _) ⟨W.heap.size,0,none⟩ 1 1 [.int .i64 k,.int .i64 0,.int .i64 0] rfl
    (fun j u h=>by
     have:=cell_of_row (W.alloc (Obj.cells #[.int .i64 k,.int .i64 0,.int .i64 0] 185)) W.heap.size j #[.int .i64 k,.int .i64 0,.int .i64 0] 185 (0,0) (World.alloc_heap_new W _)
     have e:(⟨W.heap.size,0,none⟩:Addr).add j=⟨W.heap.size,j,none⟩:=by
      by_cases hz:j=0
      ·subst hz;rfl
      ·simp [Addr.add,hz]
     rw [e,this];simpa using h) (by simp [Value.oneCell']) (by unfold maxLen;omega) (by omega) (by have:=hB.size;simp;omega)
   obtain ⟨g,cap,rfl⟩:=ownsRow_succ r1
   obtain ⟨hv1,hv2,hr2,hk2',hb2⟩:=hv.appended (tmp:=Obj.cells #[.int .i64 k,.int .i64 0,.int .i64 0] 185) (by decide) hrow hB.size (Nat.le_refl _) r1 ⟨r2.os,r2.tape,r2.output,r2.size,r2.block⟩
   have hc1:=hv1.cell
   have hf1:=hv1.frozen
   have em:mCells (mea p.evs k)++[.int .i64 k,.int .i64 0,.int .i64 0]=mCells (mea p.evs k++[((k:Int),0,0)]):=(mCells_snoc (mea p.evs k) ((k:Int),0,0)).symm
   rw [em] at hr2
   subst hm
   have hf2:=hr2.frozenAt ((mea p.evs k).length*3+1)
   have hf3:=hr2.frozenAt ((mea p.evs k).length*3+2)
   have ha1:=hr2.cellAt ((mea p.evs k).length*3+1) (by omega)
   have ha2:=hr2.cellAt ((mea p.evs k).length*3+2) (by omega)
   rw [mCells_at1] at ha1
   rw [mCells_at2] at ha2
   by_cases hk0:k=0
   ·have q1:((k:Int) == 0)=true:=by simp [hk0]
    clear hk0
    gi_wp2
    rw [← Int.zero_add T]
    exact ms_grown (x:=((k:Int),0,0)) hT (if_pos hN) hv2 hr2 hB hk2' hb2
   ·have q1:((k:Int) == 0)=false:=by simp [hk0]
    have q2:¬ (k:Int)=0:=by omega
    obtain rfl:bar=true:=by rw [hnew] at hN;simpa [hk0] using hN
    clear hk0
    gi_wp2
    rw [← Int.zero_add T]
    exact ms_grown (x:=((k:Int),0,0)) hT (if_pos hN) hv2 hr2 hB hk2' hb2
  ·-- the last one goes on
   have hk0:¬ k=0:=fun e=>hN (by rw [hnew,e];rfl)
   obtain rfl:bar=false:=by
    cases bar with
    | false=>rfl
    | true=>exact absurd (by rw [hnew];simp) hN
   have hne:=mea_ne p.evs k
   rw [if_neg hN] at hne
   obtain ⟨l,x,hlx⟩:∃ l x,mea p.evs k=l++[x]:=⟨_,_,(List.dropLast_concat_getLast hne).symm⟩
   rw [hlx] at hrow
   have hll:(l++[x]).length=l.length+1:=by simp
   rw [hll] at hrow
   obtain ⟨g,cap,rfl⟩:=ownsRow_succ hrow
   have hc:=hv.cell
   have q1:((k:Int) == 0)=false:=by simp [hk0]
   have q2:¬ (k:Int)=0:=by omega
   clear hk0
   have hf2:=hrow.frozenAt (l.length*3+1)
   have hf3:=hrow.frozenAt (l.length*3+2)
   have ha1:=hrow.cellAt (l.length*3+1) (by omega)
   have ha2:=hrow.cellAt (l.length*3+2) (by omega)
   rw [mCells_at1] at ha1
   rw [mCells_at2] at ha2
   have hbd:=mea_bd p.evs k x (by rw [hlx];simp)
   rw [hlx,hll] at hlen
   obtain ⟨x1,x2,x3⟩:=x
   simp only at ha1 ha2 hbd
   obtain ⟨_,⟨b1,b2⟩,b3,b4⟩:=hbd
   have b5:x2+1≤1000:=by omega
   have b6:x3+T≤1000000:=by omega
   have b7:l.length≤1000:=by omega
   have hw2:wrap64 (x3+T)=x3+T:=by unfold wrap64;omega
   have hw1:wrap64 (x2+1)=x2+1:=by unfold wrap64;omega
   gi_wp2
   exact ms_grown hT ((if_neg hN).trans hlx) hv hrow hB (KeepsOthers.refl _) (Below.refl _ _)
 case done =>
  rintro D W hD ⟨⟨v,hv,hrow,_⟩,hB⟩ hK
  have hc:=hv.cell
  gi_wp2
  refine ⟨by simp,.inl ⟨_,_,rfl,run_takeDeferred hK,?_⟩⟩
  refine ⟨_,results_tmp2 rfl _ _ _,v,rfl,?_,?_⟩
  ·exact ownsRow_putObj (own_weaken hrow (by omega)) _ hK rfl
  ·exact (hB0.trans (hB.mono (by omega))).trans (belowK_b (w:=w) (Nat.le_refl _) W D _ _ (by omega) hK rfl rfl)
end Go.Proofs.YtgelfflighgajaaGreatDoor
namespace Go.Proofs.YtgelfflighgajaaGreatDoor
open Go.RowKit
def eMea (x:Int×Int×Int):List AV:=[.sc (.int .i64 x.1),.sc (.int .i64 x.2.1),.sc (.int .i64 x.2.2)]
theorem eMea_of (x:Int×Int×Int):∀ (i:Nat) av,(eMea x)[i]?=some av→∃ u,av=.sc u∧(mCell x)[i]?=some u∧u.oneCell'=true:=by
 intro i av a
 match i with
 | 0=>cases a;exact ⟨_,rfl,rfl,rfl⟩
 | 1=>cases a;exact ⟨_,rfl,rfl,rfl⟩
 | 2=>cases a;exact ⟨_,rfl,rfl,rfl⟩
 | i+3=>simp [eMea] at a
def meaR (p:Pce):List (Int×Int×Int):=if pceE p=0 then mea p.evs p.evs.length else []
theorem pMeasures_FS (p:Pce) (hO:PcOk p):Ctr Tryz.prog 112 [ePce p] (.tu [.ls 3 ((meaR p).map eMea),.sc (.int .i64 (pceE p))]):=by
 intro w F vs hF hR
 match vs,hR.1 with
 | [v],_ =>
  obtain ⟨M,rfl,hM⟩:=pc_of_rp hF (hR.2 0 _ v rfl rfl)
  unfold meaR
  by_cases h0:pceE p=0
  ·rw [if_pos h0,h0]
   refine (pMeasures_ok M p w hM hO h0).mono fun e w' ⟨v,he,hrow,hb⟩=>?_
   obtain ⟨L,hL⟩:∃ L,mea p.evs p.evs.length=L:=⟨_,rfl⟩
   rw [hL] at hrow ⊢
   have hfl:mCells L=(L.map mCell).flatten:=by unfold mCells;rw [List.flatMap_def]
   rw [hfl] at hrow
   obtain ⟨A,c,rfl,hrd,hat,hc⟩:=rd_of_own (l:=L.map mCell) hrow (fun r hr=>by obtain ⟨x,_,rfl⟩:=List.mem_map.1 hr;rfl) rfl (by simp)
   refine ⟨_,newF F w w',he,hb,newF_le hF,newF_fw hF hb,newF_new,.tu _ _ rfl fun i av u a b=>?_⟩
   match i with
   | 0 =>
    cases a;cases b
    exact rp_of_rd (F:=F) (w:=w) hrd (fun ad e=>(hat ad e).2) hc (e:=eMea) (fun _=>rfl) eMea_of
   | 1=>cases a;cases b;exact .sc _
   | i+2=>simp at a
  ·rw [if_neg h0]
   refine (pMeasures_bad M p w hM hO h0).mono fun e w' ⟨he,hb⟩=>?_
   refine ⟨_,newF F w w',he,hb,newF_le hF,newF_fw hF hb,newF_new,.tu _ _ rfl fun i av u a b=>?_⟩
   match i with
   | 0=>cases a;cases b;exact .ls 3 [] none 0 ⟨0,0,none⟩ (fun _ _=>undef) (by simp) (by simp) (by simp) (by simp) (by simp)
   | 1=>cases a;cases b;exact .sc _
   | i+2=>simp at a
end Go.Proofs.YtgelfflighgajaaGreatDoor
namespace Go.Proofs.YtgelfflighgajaaGreatDoor
open Go.RowKit
set_option maxRecDepth 100000
set_option maxHeartbeats 8000000
structure En where
 t:List UInt8
 s:Int
 p:Pce
def eEn (e:En):List AV:=[.sc (.string (bs e.t)),.sc (.int .u8 e.s),.ls 3 (e.p.cs.map eCrs),.ls 1 (e.p.st.map eInt),.ls 6 (e.p.evs.map eEv)]
def eBk (b:List En):AV:=.ag [.ls 5 (b.map eEn)]
def chOk (c:UInt8):Bool:=decide (32≤(c.toNat:Int)) && decide ((c.toNat:Int)≤126)
def ttlOk (t:List UInt8):Bool:=decide (1≤t.length∧t.length≤60) && !(((t.getD 0 0).toNat:Int) == 32) && !(((t.getD (t.length-1) 0).toNat:Int) == 32) && t.all chOk
def ttlN (b:List En) (t:List UInt8):Nat:=(b.takeWhile fun e=>!(e.t == t)).length
def ttlI (b:List En) (t:List UInt8):Int:=if ttlN b t<b.length then (ttlN b t:Int) else -1
theorem ttlN_le (b:List En) (t:List UInt8):ttlN b t≤b.length:=(List.takeWhile_sublist _).length_le
theorem ttlN_before {b:List En} {t:List UInt8} {k:Nat} (h:k<ttlN b t) (hk:k<b.length):(b[k].t == t)=false:=by
 have h1:(b.takeWhile fun e=>!(e.t == t))[k]'h∈b.takeWhile fun e=>!(e.t == t):=List.getElem_mem _
 have h2:(b.takeWhile fun e=>!(e.t == t))[k]'h=b[k]:=(List.takeWhile_prefix _).getElem _
 have h3:=List.all_eq_true.1 (List.all_takeWhile (p:=fun e:En=>!(e.t == t)) (l:=b)) _ h1
 rw [h2] at h3
 simpa using h3
theorem ttlN_here {b:List En} {t:List UInt8} (h:ttlN b t<b.length):(b[ttlN b t].t == t)=true:=by
 have h1:b.drop (ttlN b t)=b.dropWhile fun e=>!(e.t == t):=by
  have e:=List.takeWhile_append_dropWhile (p:=fun e:En=>!(e.t == t)) (l:=b)
  have:=List.drop_left (l₁:=b.takeWhile fun e=>!(e.t == t)) (l₂:=b.dropWhile fun e=>!(e.t == t))
  rw [e] at this
  exact this
 have h2:b.drop (ttlN b t)=b[ttlN b t]::b.drop (ttlN b t+1):=List.drop_eq_getElem_cons h
 rw [h1] at h2
 have h3:=List.head?_dropWhile_not (fun e:En=>!(e.t == t)) b
 rw [h2] at h3
 simpa [List.getElem?_eq_getElem h] using h3
theorem ttlN_eq {b:List En} {t:List UInt8} {k:Nat} (hk:k<b.length) (h1:∀ i (hi:i<k),(b[i]'(by omega)).t≠t) (h2:b[k].t=t):ttlN b t=k:=by
 rcases Nat.lt_trichotomy (ttlN b t) k with h|h|h
 ·have:=ttlN_here (b:=b) (t:=t) (by omega)
  exact absurd (by simpa using this) (h1 _ h)
 ·exact h
 ·have:=ttlN_before h hk
  rw [h2] at this;simp at this
def enE (b:List En) (i:Nat) (e:En):Int :=
 if ttlOk e.t=false∨ttlN b e.t<i then 110 else if ¬ (1≤e.s∧e.s≤4) then 30 else if pceE e.p≠0 then pceE e.p else if lksR e.s e.p=[] then 0 else 31
def ensE (b:List En):Nat→List En→Int
 | _,[]=>0
 | i,e::r=>if enE b i e=0 then ensE b (i+1) r else enE b i e
def bkE (b:List En):Int:=if 64<b.length then 2 else ensE b 0 b
theorem ensE_all {b:List En}:∀ {l:List En} {i:Nat},(∀ k (h:k<l.length),enE b (i+k) l[k]=0)→ensE b i l=0
 | [],_,_=>rfl
 | e::r,i,h=>by
  have h0:enE b i e=0:=h 0 (by simp)
  have e1:ensE b i (e::r)=ensE b (i+1) r:=if_pos h0
  rw [e1]
  refine ensE_all fun k hk=>?_
  have:=h (k+1) (by simpa using hk)
  rw [show i+1+k=i+(k+1) by omega]
  exact this
theorem ensE_at {b:List En}:∀ {l:List En} {i k:Nat} (h:k<l.length),(∀ j (hj:j<k),enE b (i+j) (l[j]'(by omega))=0)→enE b (i+k) l[k]≠0→ensE b i l=enE b (i+k) l[k]
 | [],_,k,h,_,_=>by simp at h
 | e::r,i,0,h,_,h2=>if_neg h2
 | e::r,i,k+1,h,h1,h2=>by
  have h0:enE b i e=0:=h1 0 (by omega)
  have e1:ensE b i (e::r)=ensE b (i+1) r:=if_pos h0
  have e2:i+(k+1)=i+1+k:=by omega
  rw [e1]
  simp only [List.getElem_cons_succ] at h2 ⊢
  rw [e2] at h2 ⊢
  exact ensE_at (by simpa using h) (fun j hj=>by
   have:=h1 (j+1) (by omega)
   simp only [List.getElem_cons_succ] at this
   rw [show i+1+j=i+(j+1) by omega]
   exact this) h2
theorem bkE_ok {b:List En} (h:¬ 64<b.length) (h1:∀ k (h:k<b.length),enE b k b[k]=0):bkE b=0:=by
 unfold bkE
 rw [if_neg h]
 exact ensE_all fun k hk=>by simpa using h1 k hk
theorem bkE_at {b:List En} (h:¬ 64<b.length) {k:Nat} (hk:k<b.length) (h1:∀ j (hj:j<k),enE b j (b[j]'(by omega))=0) (h2:enE b k b[k]≠0):bkE b=enE b k b[k]:=by
 unfold bkE
 rw [if_neg h]
 have:=ensE_at (b:=b) (i:=0) hk (fun j hj=>by simpa using h1 j hj) (by simpa using h2)
 simpa using this
structure BkOk (b:List En):Prop where
 n:b.length≤70
 p:∀ k (h:k<b.length),PcOk b[k].p
 t:∀ k (h:k<b.length),b[k].t.length≤1000
end Go.Proofs.YtgelfflighgajaaGreatDoor
