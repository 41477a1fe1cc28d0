/- The groups of rows that begin alike: plain. -/
import Derived.Test.YtgelfflighgajaaGreatDoorMsPPq
import Derived.Test.YtgelfflighgajaaGreatDoorG6Pq
import Derived.Test.YtgelfflighgajaaGreatDoorSo2Pq
set_option maxHeartbeats 8000000
set_option maxRecDepth 100000
set_option linter.unusedVariables false
set_option linter.unusedSimpArgs false
namespace Go.Proofs.YtgelfflighgajaaGreatDoor
section
open Go.RowKit
def upP(n q:Int):Int:=if n<0∨n<q then q else n
def maxP (p:Pce)(l:List Stp)(n:Int):Int:=l.foldl (fun n x=>upP n (pitN p.cs p.st x.1 x.2.1)) n
def melR (p:Pce):List Int:=p.evs.map fun e=>maxP p e.stops (-1)
def melS (out:List Int)(n:Nt):List Int:=out.set n.1.toNat (upP (out.getD n.1.toNat 0) n.2.2.1)
theorem melS_length(l:List Nt):∀ out,(l.foldl melS out).length=out.length:=by
 induction l with
 | nil=>intro out;rfl
 | cons n r ih=>intro out;rw [List.foldl_cons,ih];simp [melS]
theorem melS_event (p:Pce) (k:Nat):∀ (l:List Stp) (out:List Int) (v:Int),out[k]?=some v→(l.map (noteR p k)).foldl melS out=out.set k (maxP p l v):=by
 intro l
 induction l with
 | nil =>
  intro out v h
  apply List.ext_getElem?
  intro i
  rw [List.getElem?_set]
  by_cases e:k=i
  ·subst e
   have hlt:=(List.getElem?_eq_some_iff.1 h).1
   rw [List.getElem?_eq_getElem hlt]at h
   simp [maxP,hlt,Option.some.inj h]
  ·simp [e]
 | cons x r ih =>
  intro out v h
  have hlt:=(List.getElem?_eq_some_iff.1 h).1
  rw [List.map_cons,List.foldl_cons]
  have e1:melS out (noteR p k x)=out.set k (upP v (pitN p.cs p.st x.1 x.2.1)):=by
   unfold melS noteR valN
   simp [h]
  rw [e1,ih _ (upP v (pitN p.cs p.st x.1 x.2.1)) (by simp [hlt])]
  rw [List.set_set];rfl
theorem mel_notes (p:Pce):∀ m,m≤p.evs.length→(notesR p m).foldl melS (List.replicate p.evs.length (-1))=((p.evs.take m).map fun e=>maxP p e.stops (-1))++List.replicate (p.evs.length-m) (-1):=by
 intro m
 induction m with
 | zero=>intro _;simp [notesR]
 | succ m ih =>
  intro hm
  have hm':m<p.evs.length:=by omega
  have e1:notesR p (m+1)=notesR p m++p.evs[m].stops.map (noteR p m):=by
   show (match p.evs[m]? with|some e=>_|none=>_)=_
   rw [List.getElem?_eq_getElem hm']
  rw [e1,List.foldl_append,ih (by omega),melS_event p m p.evs[m].stops _ (-1) ?_]
  ·rw [List.take_succ_eq_append_getElem hm',List.map_append,List.set_append_right _ _ (by simp;omega)]
   have:m-((p.evs.take m).map fun e=>maxP p e.stops (-1)).length=0:=by simp;omega
   rw [this,show p.evs.length-m=(p.evs.length-(m+1))+1 by omega,List.replicate_succ]
   simp
  ·rw [List.getElem?_append_right (by simp;omega)]
   have:m-((p.evs.take m).map fun e=>maxP p e.stops (-1)).length=0:=by simp;omega
   rw [this,List.getElem?_replicate,if_pos (by omega)]
theorem mel_all (p:Pce):(notesR p p.evs.length).foldl melS (List.replicate p.evs.length (-1))=melR p:=by
 rw [mel_notes p _ (Nat.le_refl _)];simp [melR]
def difs:List Int→List Int
 | x::y::r=>(y-x)::difs (y::r)
 | _=>[]
theorem difs_length:∀ l,(difs l).length=l.length-1
 | []=>rfl
 | [x]=>rfl
 | x::y::r=>by
  have:=difs_length (y::r)
  simp only [difs,List.length_cons]at this ⊢
  omega
theorem difs_at:∀ (l:List Int)(i:Nat)(h:i+1<l.length),(difs l)[i]?=some (l[i+1]-l[i])
 | [],i,h=>by simp at h
 | [x],i,h=>by simp at h
 | x::y::r,0,h=>rfl
 | x::y::r,i+1,h=>by
  have:=difs_at (y::r) i (by simpa using h)
  simpa [difs] using this
theorem difs_take {l:List Int} {i:Nat} (h:i+1<l.length):(difs l).take (i+1)=(difs l).take i++[l[i+1]-l[i]]:=by
 have h1:=difs_at l i h
 have hlt:=(List.getElem?_eq_some_iff.1 h1).1
 rw [List.take_succ_eq_append_getElem hlt]
 rw [List.getElem?_eq_getElem hlt]at h1
 rw [Option.some.inj h1]
def sungR (p:Pce):List Int:=(melR p).filter fun x=>!decide (x<0)
def incR (p:Pce)(n:Int):List Int:=(difs (sungR p)).take n.toNat
end
section
open Go.RowKit Go.Shelf
attribute [local go_sem]Oper.semAt_some
attribute [-go_sem]Builtin.append_
theorem Tryz.infoMea:(Tryz.prog.info? 185).map (fun i=>(i.zero,i.size,i.bytes))=some (some (.agg #[.int .i64 0,.int .i64 0,.int .i64 0]),3,24):=by kernel_rfl
theorem Tryz.underMea:Tryz.prog.underlying 181=some (.slice 185):=by kernel_rfl
def MsI (w1:World)(evs:List Ev)(k:Nat)(W:World):Prop:=(∃ v,Boxed W w1.heap.size 181 v∧W.ownsRow w1.heap.size 185 3 v (mea evs k).length (mCells (mea evs k))∧True)∧Below w1.heap.size w1 W
theorem msI_own (w1:World) (evs:List Ev) (B:Nat) (hB:w1.heap.size≤B):OwnFrom B (MsI w1 evs) :=
 OwnFrom.and (Own.from (holdsRow_own w1.heap.size w1.heap.size 181 185 3 (fun k=>(mea evs k).length) (fun k=>mCells (mea evs k)) (fun _ _=>True)) _) (ownFrom_below (Nat.le_refl _) hB)
theorem ms_grown {w1 W W2:World} {evs:List Ev} {k:Nat} {l:List (Int×Int×Int)} {x:Int×Int×Int} {g cap:Nat} {T:Int} {a:Act} (hT:frc 0 (evs.take (k+1))=T) (hl:(if newM evs k then mea evs k++[((k:Int),0,0)] else mea evs k)=l++[x])
  (hv:Boxed W2 w1.heap.size 181 (.slice (some ⟨g,0,none⟩) (l.length+1) cap)) (hrow:W2.ownsRow w1.heap.size 185 3 (.slice (some ⟨g,0,none⟩) (l.length+1) cap) (l.length+1) (mCells (l++[x])))
  (hB:Below w1.heap.size w1 W) (hk:KeepsOthers W W2) (hb:Below w1.heap.size W W2) :
  rngPost w1.heap.size (MsI w1 evs) k W .normal a ((W2.setCell ⟨g,l.length*3+1,none⟩ (.int .i64 (x.2.1+1))).setCell ⟨g,l.length*3+2,none⟩ (.int .i64 (x.2.2+T))):=by
 have hne:=hv.not_row (by decide) hrow
 obtain ⟨r1,g1⟩:=hrow.stored (l.length*3+1) (.int .i64 (x.2.1+1))
 rw [mCells_set1] at r1
 obtain ⟨r2,g2⟩:=r1.stored (l.length*3+2) (.int .i64 (x.2.2+T))
 rw [mCells_set2 l (x.1,x.2.1+1,x.2.2)] at r2
 have hm:mea evs (k+1)=l++[(x.1,x.2.1+1,x.2.2+T)]:=by
  show bumpM (frc 0 (evs.take (k+1))) _=_
  rw [hT,hl,bumpM_snoc]
 have hg:w1.heap.size≤g:=by
  rcases hrow.2 with⟨h,_⟩|⟨g',cap',cur,h,hb,_⟩
  ·cases h
  ·cases h;exact hb
 have hb2:Below w1.heap.size W ((W2.setCell ⟨g,l.length*3+1,none⟩ (.int .i64 (x.2.1+1))).setCell ⟨g,l.length*3+2,none⟩ (.int .i64 (x.2.2+T))):=(hb.setCell (p:=⟨g,l.length*3+1,none⟩) hg _).setCell (p:=⟨g,l.length*3+2,none⟩) hg _
 refine ⟨(hk.trans (KeepsOthers.setCell _ _ _)).trans (KeepsOthers.setCell _ _ _),hb2,⟨_,(hv.kept g1 hne).kept g2 hne,?_,trivial⟩,hB.trans hb2⟩
 rw [hm]
 simpa using r2
theorem pMeasures_ok (M:PM) (p:Pce) (w:World) (hP:PcAt w w.heap.size M p) (hO:PcOk p) (h0:pceE p=0):Calls Tryz.prog 112 #[pcValue M p] w fun e w' =>
  ∃ v,e=.returned (.tuple #[v,.int .i64 0])∧w'.ownsRow w.heap.size 185 3 v (mea p.evs p.evs.length).length (mCells (mea p.evs p.evs.length))∧Below w.heap.size w w':=by
 have hC:=fun (w':World) (hb:Below w.heap.size w w')=>pCheck_any M p w' (hP.after hb) hO
 rw [h0] at hC
 have hn3:=hO.n3
 have hT:=fun w'=>timed_any M p w'
 obtain ⟨A1,A2,A3,c1,c2,c3⟩:=M
 obtain ⟨n1,hn1⟩:∃ n,p.cs.length=n:=⟨_,rfl⟩
 obtain ⟨n2,hn2⟩:∃ n,p.st.length=n:=⟨_,rfl⟩
 obtain ⟨n3,hnn⟩:∃ n,p.evs.length=n:=⟨_,rfl⟩
 unfold pcValue at *
 simp only at *
 rw [hn1,hn2,hnn] at hC hT
 rw [hnn] at hn3
 rw [hn1,hn2,hnn]
 have HC:=Lib.hid hC
 have HT:=Lib.hid hT
 have HP:=Lib.hid hP
 have HN:=Lib.hid hnn
 obtain ⟨i0,hi,hz0,hz1,hz2⟩:=info_parts Tryz.infoMea
 clear hC hT hP hnn hn1 hn2 hO h0
 refine (callsIn_wide (n:=4)).1 ?_
 refine callsIn_of_wp_marks Tryz.func112 rfl trivial ?_ rfl
 simp only [Tryz.ntmps112,List.size_toArray,List.length_cons,List.length_nil,Nat.reduceAdd,Nat.reduceSub,Array.replicate_succ,Array.replicate_zero,List.push_toArray,List.append_toArray,List.nil_append,List.cons_append]
 gi_wp2_with (first
  | (refine ⟨trivial,?_⟩;gi_at_call 52;refine (callsIn_wide.2 (HC.out _ zqb)).mono ?_;rintro e' w1 ⟨rfl,hb1⟩;have k1:=(Blk.new _ _ _).after hb1;have x0:w1.cell? ⟨w.heap.size,0,none⟩=some (.slice A1 n1 c1):=k1.cell 0;have x1:w1.cell? ⟨w.heap.size,1,none⟩=some (.slice A2 n2 c2):=k1.cell 1;have x2:w1.cell? ⟨w.heap.size,2,none⟩=some (.slice A3 n3 c3):=k1.cell 2;have l1:w.heap.size < w1.heap.size:=k1.lt;have K1:=Lib.hid k1;clear k1)
  | (refine ⟨trivial,?_⟩;gi_at_call 173;refine (callsIn_wide.2 (HT.out _)).mono ?_;rintro e' w2 ⟨rfl,rfl⟩))
 have hB0:Below w.heap.size w w1:=((Below.refl _ w).alloc (Nat.le_refl _) _).trans (hb1.mono (by simp))
 obtain ⟨W0,hW0⟩:∃ W0,(w1.alloc (Obj.cells #[Value.slice none 0 0] 181)).alloc (Obj.cells #[Value.slice A1 n1 c1,Value.slice A2 n2 c2,Value.slice A3 n3 c3] 28)=W0:=⟨_,rfl⟩
 have hB3:Below w1.heap.size w1 W0:=by rw [← hW0];exact ((Below.refl _ w1).alloc (Nat.le_refl _) _).alloc (by simp) _
 have hs3:w1.heap.size+2=W0.heap.size:=by rw [← hW0];simp
 have kb:Blk W0 (w1.heap.size+1) 28 #[Value.slice A1 n1 c1,Value.slice A2 n2 c2,Value.slice A3 n3 c3]:=by
  have:=Blk.new (w1.alloc (Obj.cells #[Value.slice none 0 0] 181)) 28 #[Value.slice A1 n1 c1,Value.slice A2 n2 c2,Value.slice A3 n3 c3]
  rwa [World.size_alloc,hW0] at this
 have h00:MsI w1 p.evs 0 W0:=by
  refine ⟨⟨.slice none 0 0,?_,⟨rfl,.inl ⟨rfl,rfl⟩⟩,trivial⟩,hB3⟩
  rw [← hW0]
  exact (Boxed.new w1 181 (.slice none 0 0)).alloc _
 rw [hW0]
 refine wp_range (n:=4) (gf:=212) (lb:=#[Value.pointer (some ⟨w1.heap.size+1,0,none⟩)]) rfl (enters_of Tryz.func212 (by kernel_rfl) rfl)
  (encs:=fun k=>#[.int .i64 (k:Int),.int .i64 (frc 0 (p.evs.take (k+1)))]) (len:=n3) (n₀:=w1.heap.size) (by omega)
  (fun l J W hW hJ hY h0=>timed1_in 3 (by omega) l (w1.heap.size+1) w1.heap.size n3 c3 A3 p.evs HN.out hn3 _ J hJ hY W (by have:=hW.size;omega)
   ((hW.cell (p:=⟨w1.heap.size+1,2,none⟩) (by simp;omega)).trans (kb.cell 2))
   (((HP.out.2.1.below (hB0.trans (hB3.mono hB0.size))).below (hW.mono (by omega))).more hB0.size) h0)
  (fun _=>rfl)
  (MsI w1 p.evs) (msI_own w1 p.evs _ (by omega)) h00
  (fun k=>{ tmps:=#[Value.agg #[Value.slice A1 n1 c1,Value.slice A2 n2 c2,Value.slice A3 n3 c3],
     Value.pointer (some { block:=w.heap.size,off:=0 }),Value.slice none 0 0,Value.int IntKind.i64 0,
     Value.int IntKind.i64 0,Value.pointer (some { block:=w1.heap.size,off:=0 }),.int .i64 (k:Int),.int .i64 (frc 0 (p.evs.take (k+1))),undef,
     Value.agg #[Value.slice A1 n1 c1,Value.slice A2 n2 c2,Value.slice A3 n3 c3],Value.int IntKind.i64 0,
     Value.int IntKind.i64 0,Value.bool false,undef,
     Value.agg #[Value.slice A1 n1 c1,Value.slice A2 n2 c2,Value.slice A3 n3 c3],
     Value.func (Fn.func 212) #[] #[Value.pointer (some { block:=w1.heap.size+1,off:=0 })],.int .i64 (k:Int),
     .int .i64 (frc 0 (p.evs.take (k+1))),undef,undef,undef,undef,undef,undef,undef,undef,undef,undef,undef,undef,undef,undef,undef,undef,undef,undef,undef,undef,undef,undef,undef,undef,undef,undef,undef,undef,undef,undef,undef,undef,undef,undef,undef,undef],defers:=[] }) ?assign ?body ?done
 case assign =>
  intro l k W K hK
  gi_wp2
  exact hK
 case body =>
  rintro l0 k W ⟨⟨v,hv,hrow,_⟩,hB⟩ hlt
  have hk2:k < p.evs.length:=by have:=HN.out;omega
  obtain ⟨ad,S,c',hA,hb,e0,_⟩:=((HP.out.2.1.below hB0).more hB0.size|>.below hB).ev hk2
  subst hA
  have y2:W.cell? ⟨w.heap.size,2,none⟩=some (.slice (some ad) n3 c3):=(hB.cell (by simpa using l1)).trans x2
  have hlen:=mea_length p.evs k
  obtain ⟨T,hT⟩:∃ T,frc 0 (p.evs.take (k+1))=T:=⟨_,rfl⟩
  rw [hT]
  obtain ⟨bar,hbar⟩:∃ b,p.evs[k].bar=b:=⟨_,rfl⟩
  rw [hbar] at e0
  have hnew:newM p.evs k=(k == 0|| bar):=by unfold newM;rw [List.getElem?_eq_getElem hk2];simp [hbar]
  have hfo:Tryz.prog.follows .mixedOrders=true:=by kernel_rfl
  have hTb:0≤T∧T≤1000:=by rw [← hT];exact frc_le 0 _ ⟨by decide,by decide⟩
  have hwr:wrap64 T=T:=by first|exact Go.IntWalk.i64_in T ⟨by omega,by omega⟩|(unfold wrap64;omega)
  by_cases hN:newM p.evs k=true
  ·-- a new measure
   obtain ⟨m,hm⟩:∃ m,(mea p.evs k).length=m:=⟨_,rfl⟩
   rw [hm] at hrow hlen
   have hc:=hv.cell
   obtain ⟨v',w4,hrun,r1,r2,r3⟩:=run_append_own (P:=Tryz.prog) (W.alloc (Obj.cells #[.int .i64 k,.int .i64 0,.int .i64 0] 185)) w1.heap.size 181 181 185 i0 (.agg #[.int .i64 0,.int .i64 0,.int .i64 0]) 3 24 Tryz.underMea hi hz0 hz1 hz2 rfl (by decide) v m _ (hrow.alloc _) ⟨W.heap.size,0,none⟩ 1 1 [.int .i64 k,.int .i64 0,.int .i64 0] rfl
    (fun j u h=>by
     have:=cell_of_row (W.alloc (Obj.cells #[.int .i64 k,.int .i64 0,.int .i64 0] 185)) W.heap.size j #[.int .i64 k,.int .i64 0,.int .i64 0] 185 (0,0) (World.alloc_heap_new W _)
     have e:(⟨W.heap.size,0,none⟩:Addr).add j=⟨W.heap.size,j,none⟩:=by
      by_cases hz:j=0
      ·subst hz;rfl
      ·simp [Addr.add,hz]
     rw [e,this];simpa using h) (by simp [Value.oneCell']) (by unfold maxLen;omega) (by omega) (by have:=hB.size;simp;omega)
   obtain ⟨g,cap,rfl⟩:=ownsRow_succ r1
   obtain ⟨hv1,hv2,hr2,hk2',hb2⟩:=hv.appended (tmp:=Obj.cells #[.int .i64 k,.int .i64 0,.int .i64 0] 185) (by decide) hrow hB.size (Nat.le_refl _) r1 ⟨r2.os,r2.tape,r2.output,r2.size,r2.block⟩
   have hc1:=hv1.cell
   have hf1:=hv1.frozen
   have em:mCells (mea p.evs k)++[.int .i64 k,.int .i64 0,.int .i64 0]=mCells (mea p.evs k++[((k:Int),0,0)]):=(mCells_snoc (mea p.evs k) ((k:Int),0,0)).symm
   rw [em] at hr2
   subst hm
   have hf2:=hr2.frozenAt ((mea p.evs k).length*3+1)
   have hf3:=hr2.frozenAt ((mea p.evs k).length*3+2)
   have ha1:=hr2.cellAt ((mea p.evs k).length*3+1) (by omega)
   have ha2:=hr2.cellAt ((mea p.evs k).length*3+2) (by omega)
   rw [mCells_at1] at ha1
   rw [mCells_at2] at ha2
   by_cases hk0:k=0
   ·have q1:((k:Int) == 0)=true:=by simp [hk0]
    clear hk0
    gi_wp2
    rw [← Int.zero_add T]
    exact ms_grown (x:=((k:Int),0,0)) hT (if_pos hN) hv2 hr2 hB hk2' hb2
   ·have q1:((k:Int) == 0)=false:=by simp [hk0]
    have q2:¬ (k:Int)=0:=by omega
    obtain rfl:bar=true:=by rw [hnew] at hN;simpa [hk0] using hN
    clear hk0
    gi_wp2
    rw [← Int.zero_add T]
    exact ms_grown (x:=((k:Int),0,0)) hT (if_pos hN) hv2 hr2 hB hk2' hb2
  ·-- the last one goes on
   have hk0:¬ k=0:=fun e=>hN (by rw [hnew,e];rfl)
   obtain rfl:bar=false:=by
    cases bar with
    | false=>rfl
    | true=>exact absurd (by rw [hnew];simp) hN
   have hne:=mea_ne p.evs k
   rw [if_neg hN] at hne
   obtain ⟨l,x,hlx⟩:∃ l x,mea p.evs k=l++[x]:=⟨_,_,(List.dropLast_concat_getLast hne).symm⟩
   rw [hlx] at hrow
   have hll:(l++[x]).length=l.length+1:=by simp
   rw [hll] at hrow
   obtain ⟨g,cap,rfl⟩:=ownsRow_succ hrow
   have hc:=hv.cell
   have q1:((k:Int) == 0)=false:=by simp [hk0]
   have q2:¬ (k:Int)=0:=by omega
   clear hk0
   have hf2:=hrow.frozenAt (l.length*3+1)
   have hf3:=hrow.frozenAt (l.length*3+2)
   have ha1:=hrow.cellAt (l.length*3+1) (by omega)
   have ha2:=hrow.cellAt (l.length*3+2) (by omega)
   rw [mCells_at1] at ha1
   rw [mCells_at2] at ha2
   have hbd:=mea_bd p.evs k x (by rw [hlx];simp)
   rw [hlx,hll] at hlen
   obtain ⟨x1,x2,x3⟩:=x
   simp only at ha1 ha2 hbd
   obtain ⟨_,⟨b1,b2⟩,b3,b4⟩:=hbd
   have b5:x2+1≤1000:=by omega
   have b6:x3+T≤1000000:=by omega
   have b7:l.length≤1000:=by omega
   have hw2:wrap64 (x3+T)=x3+T:=by unfold wrap64;omega
   have hw1:wrap64 (x2+1)=x2+1:=by unfold wrap64;omega
   gi_wp2
   exact ms_grown hT ((if_neg hN).trans hlx) hv hrow hB (KeepsOthers.refl _) (Below.refl _ _)
 case done =>
  rintro D W hD ⟨⟨v,hv,hrow,_⟩,hB⟩ hK
  have hc:=hv.cell
  gi_wp2
  refine ⟨by simp,.inl ⟨_,_,rfl,run_takeDeferred hK,?_⟩⟩
  refine ⟨_,results_tmp2 rfl _ _ _,v,rfl,?_,?_⟩
  ·exact ownsRow_putObj (own_weaken hrow (by omega)) _ hK rfl
  ·exact (hB0.trans (hB.mono (by omega))).trans (belowK_b (w:=w) (Nat.le_refl _) W D _ _ (by omega) hK rfl rfl)
end
section
open Go.RowKit
def eMea (x:Int×Int×Int):List AV:=[.sc (.int .i64 x.1),.sc (.int .i64 x.2.1),.sc (.int .i64 x.2.2)]
theorem eMea_of(x:Int×Int×Int):∀ (i:Nat)av,(eMea x)[i]?=some av→∃ u,av=.sc u∧(mCell x)[i]?=some u∧u.oneCell'=true:=by
 intro i av a
 match i with
 | 0=>cases a;exact⟨_,rfl,rfl,rfl⟩
 | 1=>cases a;exact⟨_,rfl,rfl,rfl⟩
 | 2=>cases a;exact⟨_,rfl,rfl,rfl⟩
 | i+3=>simp [eMea]at a
def meaR (p:Pce):List (Int×Int×Int):=if pceE p=0 then mea p.evs p.evs.length else []
theorem pMeasures_FS (p:Pce) (hO:PcOk p):Ctr Tryz.prog 112 [ePce p] (.tu [.ls 3 ((meaR p).map eMea),.sc (.int .i64 (pceE p))]):=by
 intro w F vs hF hR
 match vs,hR.1 with
 | [v],_ =>
  obtain ⟨M,rfl,hM⟩:=pc_of_rp hF (hR.2 0 _ v rfl rfl)
  unfold meaR
  by_cases h0:pceE p=0
  ·rw [if_pos h0,h0]
   refine (pMeasures_ok M p w hM hO h0).mono fun e w' ⟨v,he,hrow,hb⟩=>?_
   obtain ⟨L,hL⟩:∃ L,mea p.evs p.evs.length=L:=⟨_,rfl⟩
   rw [hL] at hrow ⊢
   have hfl:mCells L=(L.map mCell).flatten:=by unfold mCells;rw [List.flatMap_def]
   rw [hfl] at hrow
   obtain ⟨A,c,rfl,hrd,hat,hc⟩:=rd_of_own (l:=L.map mCell) hrow (fun r hr=>by obtain ⟨x,_,rfl⟩:=List.mem_map.1 hr;rfl) rfl (by simp)
   refine ⟨_,newF F w w',he,hb,newF_le hF,newF_fw hF hb,newF_new,.tu _ _ rfl fun i av u a b=>?_⟩
   match i with
   | 0 =>
    cases a;cases b
    exact rp_of_rd (F:=F) (w:=w) hrd (fun ad e=>(hat ad e).2) hc (e:=eMea) (fun _=>rfl) eMea_of
   | 1=>cases a;cases b;exact .sc _
   | i+2=>simp at a
  ·rw [if_neg h0]
   refine (pMeasures_bad M p w hM hO h0).mono fun e w' ⟨he,hb⟩=>?_
   refine ⟨_,newF F w w',he,hb,newF_le hF,newF_fw hF hb,newF_new,.tu _ _ rfl fun i av u a b=>?_⟩
   match i with
   | 0=>cases a;cases b;exact .ls 3 [] none 0 ⟨0,0,none⟩ (fun _ _=>undef) (by simp) (by simp) (by simp) (by simp) (by simp)
   | 1=>cases a;cases b;exact .sc _
   | i+2=>simp at a
end
section
abbrev alk (x:Rw):Rw→Bool:=fun y=>decide (y.2=x.2)
abbrev lng (n:Int):Rw→Bool:=fun r=>decide (n≤(r.2.length:Int))
def fsS (f:List Rw)(x:Rw):List Rw:=if f.any (alk x)then f else f++[x]
def fsT(L:List Rw):List Rw:=L.foldl fsS []
def grp (L:List Rw)(r:Rw):List Rw:=L.filter (alk r)
def cnG (L:List Rw):List (List Rw):=(fsT L).map (grp L)
abbrev two:List Rw→Bool:=fun g=>decide (2≤g.length)
def ens (g:List Rw):List Int:=g.map (·.1)
def cnc (L:List Rw):List (List Int):=((cnG L).filter two).map ens
theorem fsT_s (L:List Rw)(x:Rw):fsT (L++[x])=fsS (fsT L) x:=by unfold fsT;rw [List.foldl_append];rfl
theorem snoc_ind {α:Type} {p:List α→Prop} (h0:p [])(hs:∀ l x,p l→p (l++[x]))(l:List α):p l:=by
 have:∀ r:List α,p r.reverse:=fun r=>by
  induction r with
  | nil=>exact h0
  | cons x r ih=>rw [List.reverse_cons];exact hs _ _ ih
 have h:=this l.reverse
 rwa [List.reverse_reverse]at h
theorem fsT_mem {L:List Rw}:∀ r∈fsT L,r∈L:=by
 induction L using snoc_ind with
 | h0=>intro r h;cases h
 | hs L x ih =>
  intro r h
  rw [fsT_s]at h
  unfold fsS at h
  split at h
  ·exact List.mem_append_left _ (ih r h)
  ·rcases List.mem_append.1 h with h|h
   ·exact List.mem_append_left _ (ih r h)
   ·exact List.mem_append_right _ h
theorem any_snoc {L:List Rw} {y:Rw} {q:Rw→Bool}:(L++[y]).any q=(L.any q|| q y):=by rw [List.any_append];simp
theorem fsT_any (L:List Rw)(x:Rw):(fsT L).any (alk x)=L.any (alk x):=by
 induction L using snoc_ind with
 | h0=>rfl
 | hs L y ih =>
  rw [fsT_s,any_snoc,← ih]
  unfold fsS
  split
  ·rename_i h
   by_cases e:y.2=x.2
   ·have hx:(fsT L).any (alk x)=true:=by
     have:alk x=alk y:=by funext z;simp [alk,e]
     rw [this];exact h
    rw [hx];rfl
   ·have:alk x y=false:=decide_eq_false e
    rw [this,Bool.or_false]
  ·rw [any_snoc]
theorem fsT_old {L:List Rw} {x:Rw} (h:L.any (alk x)=true):fsT (L++[x])=fsT L:=by
 rw [fsT_s];unfold fsS;rw [if_pos (by rw [fsT_any];exact h)]
theorem fsT_new {L:List Rw} {x:Rw} (h:L.any (alk x)=false):fsT (L++[x])=fsT L++[x]:=by
 rw [fsT_s];unfold fsS;rw [if_neg (by rw [fsT_any,h];exact Bool.false_ne_true)]
theorem fsT_dis (L:List Rw):(fsT L).Pairwise (fun a b=>a.2≠b.2):=by
 induction L using snoc_ind with
 | h0=>exact List.Pairwise.nil
 | hs L x ih =>
  by_cases h:L.any (alk x)=true
  ·rw [fsT_old h];exact ih
  ·have h:L.any (alk x)=false:=by simpa using h
   rw [fsT_new h]
   refine List.pairwise_append.2 ⟨ih,List.pairwise_singleton _ _,fun a ha b hb=>?_⟩
   rcases List.mem_singleton.1 hb with rfl
   intro e
   rw [List.any_eq_false]at h
   exact h a (fsT_mem a ha) (decide_eq_true e)
theorem fsT_len(L:List Rw):(fsT L).length≤L.length:=by
 induction L using snoc_ind with
 | h0=>exact Nat.le_refl _
 | hs L x ih =>
  rw [fsT_s];unfold fsS
  split<;>simp<;>omega
theorem cnG_len(L:List Rw):(cnG L).length=(fsT L).length:=List.length_map _
theorem grp_len(L:List Rw)(r:Rw):(grp L r).length≤L.length:=List.length_filter_le _ _
theorem grp_head {L:List Rw}:∀ r∈fsT L,∃ t,grp L r=r::t:=by
 induction L using snoc_ind with
 | h0=>intro r h;cases h
 | hs L x ih =>
  intro r hr
  unfold grp
  rw [List.filter_append]
  by_cases h:L.any (alk x)=true
  ·rw [fsT_old h]at hr
   obtain⟨t,ht⟩:=ih r hr
   refine⟨t++[x].filter (alk r),?_⟩
   rw [show L.filter (alk r)=grp L r from rfl,ht];rfl
  ·have h:L.any (alk x)=false:=by simpa using h
   rw [fsT_new h]at hr
   rcases List.mem_append.1 hr with hr|hr
   ·obtain⟨t,ht⟩:=ih r hr
    refine⟨t++[x].filter (alk r),?_⟩
    rw [show L.filter (alk r)=grp L r from rfl,ht];rfl
   ·rcases List.mem_singleton.1 hr with rfl
    refine⟨[],?_⟩
    have e:L.filter (alk r)=[]:=by
     rw [List.filter_eq_nil_iff]
     rw [List.any_eq_false]at h
     intro a ha;exact h a ha
    rw [e,List.filter_cons_of_pos (by simp),List.filter_nil];rfl
def grI (L:List Rw)(x:Rw):Nat:=(fsT L).findIdx (alk x)
theorem grI_le(L:List Rw)(x:Rw):grI L x≤(fsT L).length:=List.findIdx_le_length
theorem grI_at {L:List Rw} {x:Rw} (h:grI L x<(fsT L).length):(fsT L)[grI L x].2=x.2:=by
 show ((fsT L)[(fsT L).findIdx (alk x)]'h).2=x.2
 exact of_decide_eq_true (List.findIdx_getElem (p:=alk x) (w:=h))
theorem grI_lt {L:List Rw} {x:Rw} {i:Nat} (h:i<grI L x) (h2:i<(fsT L).length):¬ (fsT L)[i].2=x.2:=by
 have:=List.not_of_lt_findIdx (p:=alk x) (xs:=fsT L) h
 simpa [alk] using this
theorem grI_any {L:List Rw} {x:Rw}:grI L x<(fsT L).length↔L.any (alk x)=true:=by
 rw [← fsT_any]
 unfold grI
 rw [List.findIdx_lt_length,List.any_eq_true]
theorem cnG_old {L:List Rw} {x:Rw} (h:grI L x<(fsT L).length) (h2:grI L x<(cnG L).length):cnG (L++[x])=(cnG L).set (grI L x) ((cnG L)[grI L x]++[x]):=by
 have ho:fsT (L++[x])=fsT L:=fsT_old (grI_any.1 h)
 have hx:=grI_at h
 apply List.ext_getElem
 ·rw [List.length_set,cnG_len,cnG_len,ho]
 ·intro i h1 h3
  rw [cnG_len,ho] at h1
  rw [List.getElem_set]
  simp only [cnG,List.getElem_map,ho]
  have hg:∀ r,grp (L++[x]) r=grp L r++[x].filter (alk r):=fun r=>List.filter_append ..
  rw [hg]
  split
  ·rename_i e
   subst e
   rw [List.filter_cons_of_pos (by simp [alk,hx]),List.filter_nil]
  ·rename_i e
   have hne:¬ x.2=(fsT L)[i].2:=fun e2=>by
    have hp:=List.pairwise_iff_getElem.1 (fsT_dis L)
    rcases Nat.lt_or_gt_of_ne e with hl|hl
    ·exact hp _ _ h h1 hl (by rw [hx,e2])
    ·exact hp _ _ h1 h hl (by rw [hx,e2])
   rw [List.filter_cons_of_neg (by simp [alk,hne]),List.filter_nil,List.append_nil]
theorem cnG_new {L:List Rw} {x:Rw} (h:¬ grI L x<(fsT L).length):cnG (L++[x])=cnG L++[[x]]:=by
 have hf:L.any (alk x)=false:=by
  rw [grI_any] at h;simpa using h
 have ho:fsT (L++[x])=fsT L++[x]:=fsT_new hf
 unfold cnG
 rw [ho,List.map_append]
 have hg:∀ r,grp (L++[x]) r=grp L r++[x].filter (alk r):=fun r=>List.filter_append ..
 congr 1
 ·apply List.map_congr_left
  intro r hr
  rw [hg]
  have hne:¬ x.2=r.2:=fun e=>by
   rw [List.any_eq_false] at hf
   exact hf r (fsT_mem r hr) (decide_eq_true e.symm)
  rw [List.filter_cons_of_neg (by simp [alk,hne]),List.filter_nil,List.append_nil]
 ·rw [List.map_cons,List.map_nil,hg]
  have e:grp L x=[]:=by
   unfold grp
   rw [List.filter_eq_nil_iff]
   rw [List.any_eq_false] at hf
   intro a ha;exact hf a ha
  rw [e,List.filter_cons_of_pos (by simp),List.filter_nil];rfl
theorem cnG_at {L:List Rw} {i:Nat} (h:i<(cnG L).length)(h2:i<(fsT L).length):∃ t,(cnG L)[i]=(fsT L)[i]::t:=by
 simp only [cnG,List.getElem_map]
 exact grp_head _ (List.getElem_mem h2)
end
end Go.Proofs.YtgelfflighgajaaGreatDoor
