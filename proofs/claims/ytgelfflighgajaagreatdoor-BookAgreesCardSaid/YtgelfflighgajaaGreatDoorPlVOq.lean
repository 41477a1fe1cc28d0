/- A valid piece with all its signs written is valid. -/
import Derived.Test.YtgelfflighgajaaGreatDoorVaPOq
import Derived.Test.YtgelfflighgajaaGreatDoorFXOq
set_option maxHeartbeats 8000000
set_option maxRecDepth 100000
set_option linter.unusedVariables false
set_option linter.unusedSimpArgs false
namespace Go.Proofs.YtgelfflighgajaaGreatDoor
section
open Go.RowKit
abbrev Sf:=Int×Int×Int×Int
abbrev Ln:=Int×Int
def lookA (k:Ln):List (Ln×Int)→Int
 | []=>0
 | x::r=>if k=x.1 then x.2 else lookA k r
def updA (k:Ln)(v:Int):List (Ln×Int)→List (Ln×Int)
 | []=>[(k,v)]
 | x::r=>if k=x.1 then (k,v)::r else x::updA k v r
theorem lookA_upd (k q:Ln)(v:Int):∀ l,lookA q (updA k v l)=if q=k then v else lookA q l
 | []=>by simp [updA,lookA]
 | x::r=>by
  unfold updA
  by_cases h:k=x.1
  ·rw [if_pos h]
   unfold lookA
   by_cases hq:q=k
   ·simp [hq]
   ·rw [if_neg hq,if_neg hq,if_neg (fun e=>hq (e.trans h.symm))]
  ·rw [if_neg h]
   unfold lookA
   by_cases hq:q=x.1
   ·rw [if_pos hq,if_pos hq,if_neg (fun e=>h (e.symm.trans hq))]
   ·rw [if_neg hq,if_neg hq,lookA_upd k q v r]
def valA (l:List (Ln×Int)):List (Ln×Value):=l.map fun x=>(x.1,.int .i64 x.2)
def encLn(k:Ln):Value:=.agg #[.int .i64 k.1,.int .i64 k.2]
theorem locK_valA (k:Ln):∀ (l:List (Ln×Int)) (i:Nat),((locK k i (valA l)).map (·.2)).getD (.int .i64 0)=.int .i64 (lookA k l)
 | [],i=>rfl
 | x::r,i=>by
  show ((if k=x.1 then some (i,Value.int .i64 x.2)else locK k (i+1) (valA r)).map (·.2)).getD _=_
  unfold lookA
  by_cases h:k=x.1
  ·rw [if_pos h,if_pos h];rfl
  ·rw [if_neg h,if_neg h];exact locK_valA k r (i+1)
theorem lookK_valA (k:Ln)(l:List (Ln×Int)):lookK (.int .i64 0) k (valA l)=.int .i64 (lookA k l):=locK_valA k l 0
theorem updK_valA (k:Ln) (v:Int):∀ l:List (Ln×Int),updK k (.int .i64 v) (valA l)=valA (updA k v l)
 | []=>rfl
 | x::r=>by
  show (if k=x.1 then (k,Value.int .i64 v)::valA r else (x.1,Value.int .i64 x.2)::updK k (.int .i64 v) (valA r))=valA (if k=x.1 then (k,v)::r else x::updA k v r)
  by_cases h:k=x.1
  ·rw [if_pos h,if_pos h];rfl
  ·rw [if_neg h,if_neg h,updK_valA k v r];rfl
def sigB(key:Int)(b:UInt8):Int :=
 if 0≤Lib.indexByte [3,0,4,1] b∧Lib.indexByte [3,0,4,1] b<key then 1 else if 0≤Lib.indexByte [6,2,5,1] b∧Lib.indexByte [6,2,5,1] b<0-key then -1 else 0
def byteOf(l:Int):UInt8:=(l % 256).toNat.toUInt8
def frcA (key:Int)(alt:List (Ln×Int))(k:Ln):Int:=if 0<lookA k alt then lookA k alt-2 else sigB key (byteOf k.1)
def accN(al:Int):Int:=if al=1 then 1 else if al=-1 then 2 else 3
def AltOk (alt:List (Ln×Int)):Prop:=∀ k,0≤lookA k alt∧lookA k alt≤3
theorem AltOk.nil:AltOk []:=fun k=>⟨Int.le_refl 0,by show(0:Int)≤3;decide⟩
theorem AltOk.upd {alt:List (Ln×Int)} (h:AltOk alt)(k:Ln) {v:Int} (hv:0≤v∧v≤3):AltOk (updA k v alt):=fun q=>by
 rw [lookA_upd]
 split
 ·exact hv
 ·exact h q
end
section
open Go.RowKit Go.Shelf
attribute [local go_sem]Oper.semAt_some
attribute [-go_sem]Builtin.append_
theorem Tryz.infoMea:(Tryz.prog.info? 185).map (fun i=>(i.zero,i.size,i.bytes))=some (some (.agg #[.int .i64 0,.int .i64 0,.int .i64 0]),3,24):=by kernel_rfl
theorem Tryz.underMea:Tryz.prog.underlying 181=some (.slice 185):=by kernel_rfl
def MsI (w1:World)(evs:List Ev)(k:Nat)(W:World):Prop:=(∃ v,Boxed W w1.heap.size 181 v∧W.ownsRow w1.heap.size 185 3 v (mea evs k).length (mCells (mea evs k))∧True)∧Below w1.heap.size w1 W
theorem msI_own (w1:World) (evs:List Ev) (B:Nat) (hB:w1.heap.size≤B):OwnFrom B (MsI w1 evs) :=
 OwnFrom.and (Own.from (holdsRow_own w1.heap.size w1.heap.size 181 185 3 (fun k=>(mea evs k).length) (fun k=>mCells (mea evs k)) (fun _ _=>True)) _) (ownFrom_below (Nat.le_refl _) hB)
theorem ms_grown {w1 W W2:World} {evs:List Ev} {k:Nat} {l:List (Int×Int×Int)} {x:Int×Int×Int} {g cap:Nat} {T:Int} {a:Act} (hT:frc 0 (evs.take (k+1))=T) (hl:(if newM evs k then mea evs k++[((k:Int),0,0)] else mea evs k)=l++[x])
  (hv:Boxed W2 w1.heap.size 181 (.slice (some ⟨g,0,none⟩) (l.length+1) cap)) (hrow:W2.ownsRow w1.heap.size 185 3 (.slice (some ⟨g,0,none⟩) (l.length+1) cap) (l.length+1) (mCells (l++[x])))
  (hB:Below w1.heap.size w1 W) (hk:KeepsOthers W W2) (hb:Below w1.heap.size W W2) :
  rngPost w1.heap.size (MsI w1 evs) k W .normal a ((W2.setCell ⟨g,l.length*3+1,none⟩ (.int .i64 (x.2.1+1))).setCell ⟨g,l.length*3+2,none⟩ (.int .i64 (x.2.2+T))):=by
 have hne:=hv.not_row (by decide) hrow
 obtain ⟨r1,g1⟩:=hrow.stored (l.length*3+1) (.int .i64 (x.2.1+1))
 rw [mCells_set1] at r1
 obtain ⟨r2,g2⟩:=r1.stored (l.length*3+2) (.int .i64 (x.2.2+T))
 rw [mCells_set2 l (x.1,x.2.1+1,x.2.2)] at r2
 have hm:mea evs (k+1)=l++[(x.1,x.2.1+1,x.2.2+T)]:=by
  show bumpM (frc 0 (evs.take (k+1))) _=_
  rw [hT,hl,bumpM_snoc]
 have hg:w1.heap.size≤g:=by
  rcases hrow.2 with⟨h,_⟩|⟨g',cap',cur,h,hb,_⟩
  ·cases h
  ·cases h;exact hb
 have hb2:Below w1.heap.size W ((W2.setCell ⟨g,l.length*3+1,none⟩ (.int .i64 (x.2.1+1))).setCell ⟨g,l.length*3+2,none⟩ (.int .i64 (x.2.2+T))):=(hb.setCell (p:=⟨g,l.length*3+1,none⟩) hg _).setCell (p:=⟨g,l.length*3+2,none⟩) hg _
 refine ⟨(hk.trans (KeepsOthers.setCell _ _ _)).trans (KeepsOthers.setCell _ _ _),hb2,⟨_,(hv.kept g1 hne).kept g2 hne,?_,trivial⟩,hB.trans hb2⟩
 rw [hm]
 simpa using r2
theorem pMeasures_ok (M:PM) (p:Pce) (w:World) (hP:PcAt w w.heap.size M p) (hO:PcOk p) (h0:pceE p=0):Calls Tryz.prog 112 #[pcValue M p] w fun e w' =>
  ∃ v,e=.returned (.tuple #[v,.int .i64 0])∧w'.ownsRow w.heap.size 185 3 v (mea p.evs p.evs.length).length (mCells (mea p.evs p.evs.length))∧Below w.heap.size w w':=by
 have hC:=fun (w':World) (hb:Below w.heap.size w w')=>pCheck_any M p w' (hP.after hb) hO
 rw [h0] at hC
 have hn3:=hO.n3
 have hT:=fun w'=>timed_any M p w'
 obtain ⟨A1,A2,A3,c1,c2,c3⟩:=M
 obtain ⟨n1,hn1⟩:∃ n,p.cs.length=n:=⟨_,rfl⟩
 obtain ⟨n2,hn2⟩:∃ n,p.st.length=n:=⟨_,rfl⟩
 obtain ⟨n3,hnn⟩:∃ n,p.evs.length=n:=⟨_,rfl⟩
 unfold pcValue at *
 simp only at *
 rw [hn1,hn2,hnn] at hC hT
 rw [hnn] at hn3
 rw [hn1,hn2,hnn]
 have HC:=Lib.hid hC
 have HT:=Lib.hid hT
 have HP:=Lib.hid hP
 have HN:=Lib.hid hnn
 obtain ⟨i0,hi,hz0,hz1,hz2⟩:=info_parts Tryz.infoMea
 clear hC hT hP hnn hn1 hn2 hO h0
 refine (callsIn_wide (n:=4)).1 ?_
 refine callsIn_of_wp_marks Tryz.func112 rfl trivial ?_ rfl
 simp only [Tryz.ntmps112,List.size_toArray,List.length_cons,List.length_nil,Nat.reduceAdd,Nat.reduceSub,Array.replicate_succ,Array.replicate_zero,List.push_toArray,List.append_toArray,List.nil_append,List.cons_append]
 gi_wp2_with (first
  | (refine ⟨trivial,?_⟩;gi_at_call 52;refine (callsIn_wide.2 (HC.out _ zqb)).mono ?_;rintro e' w1 ⟨rfl,hb1⟩;have k1:=(Blk.new _ _ _).after hb1;have x0:w1.cell? ⟨w.heap.size,0,none⟩=some (.slice A1 n1 c1):=k1.cell 0;have x1:w1.cell? ⟨w.heap.size,1,none⟩=some (.slice A2 n2 c2):=k1.cell 1;have x2:w1.cell? ⟨w.heap.size,2,none⟩=some (.slice A3 n3 c3):=k1.cell 2;have l1:w.heap.size < w1.heap.size:=k1.lt;have K1:=Lib.hid k1;clear k1)
  | (refine ⟨trivial,?_⟩;gi_at_call 173;refine (callsIn_wide.2 (HT.out _)).mono ?_;rintro e' w2 ⟨rfl,rfl⟩))
 have hB0:Below w.heap.size w w1:=((Below.refl _ w).alloc (Nat.le_refl _) _).trans (hb1.mono (by simp))
 obtain ⟨W0,hW0⟩:∃ W0,(w1.alloc (Obj.cells #[Value.slice none 0 0] 181)).alloc (Obj.cells #[Value.slice A1 n1 c1,Value.slice A2 n2 c2,Value.slice A3 n3 c3] 28)=W0:=⟨_,rfl⟩
 have hB3:Below w1.heap.size w1 W0:=by rw [← hW0];exact ((Below.refl _ w1).alloc (Nat.le_refl _) _).alloc (by simp) _
 have hs3:w1.heap.size+2=W0.heap.size:=by rw [← hW0];simp
 have kb:Blk W0 (w1.heap.size+1) 28 #[Value.slice A1 n1 c1,Value.slice A2 n2 c2,Value.slice A3 n3 c3]:=by
  have:=Blk.new (w1.alloc (Obj.cells #[Value.slice none 0 0] 181)) 28 #[Value.slice A1 n1 c1,Value.slice A2 n2 c2,Value.slice A3 n3 c3]
  rwa [World.size_alloc,hW0] at this
 have h00:MsI w1 p.evs 0 W0:=by
  refine ⟨⟨.slice none 0 0,?_,⟨rfl,.inl ⟨rfl,rfl⟩⟩,trivial⟩,hB3⟩
  rw [← hW0]
  exact (Boxed.new w1 181 (.slice none 0 0)).alloc _
 rw [hW0]
 refine wp_range (n:=4) (gf:=212) (lb:=#[Value.pointer (some ⟨w1.heap.size+1,0,none⟩)]) rfl (enters_of Tryz.func212 zqk rfl)
  (encs:=fun k=>#[.int .i64 (k:Int),.int .i64 (frc 0 (p.evs.take (k+1)))]) (len:=n3) (n₀:=w1.heap.size) zqo
  (fun l J W hW hJ hY h0=>timed1_in 3 zqo l (w1.heap.size+1) w1.heap.size n3 c3 A3 p.evs HN.out hn3 _ J hJ hY W (by have:=hW.size;omega)
   ((hW.cell (p:=⟨w1.heap.size+1,2,none⟩) (by simp;omega)).trans (kb.cell 2))
   (((HP.out.2.1.below (hB0.trans (hB3.mono hB0.size))).below (hW.mono zqo)).more hB0.size) h0)
  (fun _=>rfl)
  (MsI w1 p.evs) (msI_own w1 p.evs _ zqo) h00
  (fun k=>{ tmps:=#[Value.agg #[Value.slice A1 n1 c1,Value.slice A2 n2 c2,Value.slice A3 n3 c3],
     Value.pointer (some { block:=w.heap.size,off:=0 }),Value.slice none 0 0,Value.int IntKind.i64 0,
     Value.int IntKind.i64 0,Value.pointer (some { block:=w1.heap.size,off:=0 }),.int .i64 (k:Int),.int .i64 (frc 0 (p.evs.take (k+1))),undef,
     Value.agg #[Value.slice A1 n1 c1,Value.slice A2 n2 c2,Value.slice A3 n3 c3],Value.int IntKind.i64 0,
     Value.int IntKind.i64 0,Value.bool false,undef,
     Value.agg #[Value.slice A1 n1 c1,Value.slice A2 n2 c2,Value.slice A3 n3 c3],
     Value.func (Fn.func 212) #[] #[Value.pointer (some { block:=w1.heap.size+1,off:=0 })],.int .i64 (k:Int),
     .int .i64 (frc 0 (p.evs.take (k+1))),undef,undef,undef,undef,undef,undef,undef,undef,undef,undef,undef,undef,undef,undef,undef,undef,undef,undef,undef,undef,undef,undef,undef,undef,undef,undef,undef,undef,undef,undef,undef,undef,undef,undef,undef,undef],defers:=[] }) ?assign ?body ?done
 case assign =>
  intro l k W K hK
  gi_wp2
  exact hK
 case body =>
  rintro l0 k W ⟨⟨v,hv,hrow,_⟩,hB⟩ hlt
  have hk2:k < p.evs.length:=by have:=HN.out;omega
  obtain ⟨ad,S,c',hA,hb,e0,_⟩:=((HP.out.2.1.below hB0).more hB0.size|>.below hB).ev hk2
  subst hA
  have y2:W.cell? ⟨w.heap.size,2,none⟩=some (.slice (some ad) n3 c3):=(hB.cell (by simpa using l1)).trans x2
  have hlen:=mea_length p.evs k
  obtain ⟨T,hT⟩:∃ T,frc 0 (p.evs.take (k+1))=T:=⟨_,rfl⟩
  rw [hT]
  obtain ⟨bar,hbar⟩:∃ b,p.evs[k].bar=b:=⟨_,rfl⟩
  rw [hbar] at e0
  have hnew:newM p.evs k=(k == 0|| bar):=by unfold newM;rw [List.getElem?_eq_getElem hk2];simp [hbar]
  have hfo:Tryz.prog.follows .mixedOrders=true:=by kernel_rfl
  have hTb:0≤T∧T≤1000:=by rw [← hT];exact frc_le 0 _ ⟨by decide,by decide⟩
  have hwr:wrap64 T=T:=by first|exact Go.IntWalk.i64_in T ⟨by omega,by omega⟩|(unfold wrap64;omega)
  by_cases hN:newM p.evs k=true
  ·-- a new measure
   obtain ⟨m,hm⟩:∃ m,(mea p.evs k).length=m:=⟨_,rfl⟩
   rw [hm] at hrow hlen
   have hc:=hv.cell
   obtain ⟨v',w4,hrun,r1,r2,r3⟩:=run_append_own (P:=Tryz.prog) (W.alloc (Obj.cells #[.int .i64 k,.int .i64 0,.int .i64 0] 185)) w1.heap.size 181 181 185 i0 (.agg #[.int .i64 0,.int .i64 0,.int .i64 0]) 3 24 Tryz.underMea hi hz0 hz1 hz2 rfl (by decide) v m _ (hrow.alloc _) ⟨W.heap.size,0,none⟩ 1 1 [.int .i64 k,.int .i64 0,.int .i64 0] rfl
    (fun j u h=>by
     have:=cell_of_row (W.alloc (Obj.cells #[.int .i64 k,.int .i64 0,.int .i64 0] 185)) W.heap.size j #[.int .i64 k,.int .i64 0,.int .i64 0] 185 (0,0) (World.alloc_heap_new W _)
     have e:(⟨W.heap.size,0,none⟩:Addr).add j=⟨W.heap.size,j,none⟩:=by
      by_cases hz:j=0
      ·subst hz;rfl
      ·simp [Addr.add,hz]
     rw [e,this];simpa using h) (by simp [Value.oneCell']) (by unfold maxLen;omega) (by omega) (by have:=hB.size;simp;omega)
   obtain ⟨g,cap,rfl⟩:=ownsRow_succ r1
   obtain ⟨hv1,hv2,hr2,hk2',hb2⟩:=hv.appended (tmp:=Obj.cells #[.int .i64 k,.int .i64 0,.int .i64 0] 185) (by decide) hrow hB.size (Nat.le_refl _) r1 ⟨r2.os,r2.tape,r2.output,r2.size,r2.block⟩
   have hc1:=hv1.cell
   have hf1:=hv1.frozen
   have em:mCells (mea p.evs k)++[.int .i64 k,.int .i64 0,.int .i64 0]=mCells (mea p.evs k++[((k:Int),0,0)]):=(mCells_snoc (mea p.evs k) ((k:Int),0,0)).symm
   rw [em] at hr2
   subst hm
   have hf2:=hr2.frozenAt ((mea p.evs k).length*3+1)
   have hf3:=hr2.frozenAt ((mea p.evs k).length*3+2)
   have ha1:=hr2.cellAt ((mea p.evs k).length*3+1) zqo
   have ha2:=hr2.cellAt ((mea p.evs k).length*3+2) zqo
   rw [mCells_at1] at ha1
   rw [mCells_at2] at ha2
   by_cases hk0:k=0
   ·have q1:((k:Int) == 0)=true:=by simp [hk0]
    clear hk0
    gi_wp2
    rw [← Int.zero_add T]
    exact ms_grown (x:=((k:Int),0,0)) hT (if_pos hN) hv2 hr2 hB hk2' hb2
   ·have q1:((k:Int) == 0)=false:=by simp [hk0]
    have q2:¬ (k:Int)=0:=by omega
    obtain rfl:bar=true:=by rw [hnew] at hN;simpa [hk0] using hN
    clear hk0
    gi_wp2
    rw [← Int.zero_add T]
    exact ms_grown (x:=((k:Int),0,0)) hT (if_pos hN) hv2 hr2 hB hk2' hb2
  ·-- the last one goes on
   have hk0:¬ k=0:=fun e=>hN (by rw [hnew,e];rfl)
   obtain rfl:bar=false:=by
    cases bar with
    | false=>rfl
    | true=>exact absurd (by rw [hnew];simp) hN
   have hne:=mea_ne p.evs k
   rw [if_neg hN] at hne
   obtain ⟨l,x,hlx⟩:∃ l x,mea p.evs k=l++[x]:=⟨_,_,(List.dropLast_concat_getLast hne).symm⟩
   rw [hlx] at hrow
   have hll:(l++[x]).length=l.length+1:=by simp
   rw [hll] at hrow
   obtain ⟨g,cap,rfl⟩:=ownsRow_succ hrow
   have hc:=hv.cell
   have q1:((k:Int) == 0)=false:=by simp [hk0]
   have q2:¬ (k:Int)=0:=by omega
   clear hk0
   have hf2:=hrow.frozenAt (l.length*3+1)
   have hf3:=hrow.frozenAt (l.length*3+2)
   have ha1:=hrow.cellAt (l.length*3+1) zqo
   have ha2:=hrow.cellAt (l.length*3+2) zqo
   rw [mCells_at1] at ha1
   rw [mCells_at2] at ha2
   have hbd:=mea_bd p.evs k x (by rw [hlx];simp)
   rw [hlx,hll] at hlen
   obtain ⟨x1,x2,x3⟩:=x
   simp only at ha1 ha2 hbd
   obtain ⟨_,⟨b1,b2⟩,b3,b4⟩:=hbd
   have b5:x2+1≤1000:=by omega
   have b6:x3+T≤1000000:=by omega
   have b7:l.length≤1000:=by omega
   have hw2:wrap64 (x3+T)=x3+T:=by unfold wrap64;omega
   have hw1:wrap64 (x2+1)=x2+1:=by unfold wrap64;omega
   gi_wp2
   exact ms_grown hT ((if_neg hN).trans hlx) hv hrow hB (KeepsOthers.refl _) (Below.refl _ _)
 case done =>
  rintro D W hD ⟨⟨v,hv,hrow,_⟩,hB⟩ hK
  have hc:=hv.cell
  gi_wp2
  refine ⟨by simp,.inl ⟨_,_,rfl,run_takeDeferred hK,?_⟩⟩
  refine ⟨_,results_tmp2 rfl _ _ _,v,rfl,?_,?_⟩
  ·exact ownsRow_putObj (own_weaken hrow zqo) _ hK rfl
  ·exact (hB0.trans (hB.mono zqo)).trans (belowK_b (w:=w) (Nat.le_refl _) W D _ _ zqo hK rfl rfl)
end
section
open Go.RowKit
def eMea (x:Int×Int×Int):List AV:=[.sc (.int .i64 x.1),.sc (.int .i64 x.2.1),.sc (.int .i64 x.2.2)]
theorem eMea_of(x:Int×Int×Int):∀ (i:Nat)av,(eMea x)[i]?=some av→∃ u,av=.sc u∧(mCell x)[i]?=some u∧u.oneCell'=true:=by
 intro i av a
 match i with
 | 0=>cases a;exact⟨_,rfl,rfl,rfl⟩
 | 1=>cases a;exact⟨_,rfl,rfl,rfl⟩
 | 2=>cases a;exact⟨_,rfl,rfl,rfl⟩
 | i+3=>simp [eMea]at a
def meaR (p:Pce):List (Int×Int×Int):=if pceE p=0 then mea p.evs p.evs.length else []
theorem pMeasures_FS (p:Pce) (hO:PcOk p):Ctr Tryz.prog 112 [ePce p] (.tu [.ls 3 ((meaR p).map eMea),.sc (.int .i64 (pceE p))]):=by
 intro w F vs hF hR
 match vs,hR.1 with
 | [v],_ =>
  obtain ⟨M,rfl,hM⟩:=pc_of_rp hF (hR.2 0 _ v rfl rfl)
  unfold meaR
  by_cases h0:pceE p=0
  ·rw [if_pos h0,h0]
   refine (pMeasures_ok M p w hM hO h0).mono fun e w' ⟨v,he,hrow,hb⟩=>?_
   obtain ⟨L,hL⟩:∃ L,mea p.evs p.evs.length=L:=⟨_,rfl⟩
   rw [hL] at hrow ⊢
   have hfl:mCells L=(L.map mCell).flatten:=by unfold mCells;rw [List.flatMap_def]
   rw [hfl] at hrow
   obtain ⟨A,c,rfl,hrd,hat,hc⟩:=rd_of_own (l:=L.map mCell) hrow (fun r hr=>by obtain ⟨x,_,rfl⟩:=List.mem_map.1 hr;rfl) rfl (by simp)
   refine ⟨_,newF F w w',he,hb,newF_le hF,newF_fw hF hb,newF_new,.tu _ _ rfl fun i av u a b=>?_⟩
   match i with
   | 0 =>
    cases a;cases b
    exact rp_of_rd (F:=F) (w:=w) hrd (fun ad e=>(hat ad e).2) hc (e:=eMea) (fun _=>rfl) eMea_of
   | 1=>cases a;cases b;exact .sc _
   | i+2=>simp at a
  ·rw [if_neg h0]
   refine (pMeasures_bad M p w hM hO h0).mono fun e w' ⟨he,hb⟩=>?_
   refine ⟨_,newF F w w',he,hb,newF_le hF,newF_fw hF hb,newF_new,.tu _ _ rfl fun i av u a b=>?_⟩
   match i with
   | 0=>cases a;cases b;exact .ls 3 [] none 0 ⟨0,0,none⟩ (fun _ _=>undef) (by simp) (by simp) (by simp) (by simp) (by simp)
   | 1=>cases a;cases b;exact .sc _
   | i+2=>simp at a
end
section
open Go.RowKit
def ple(s t:Stp):Bool:=s.1 == t.1 && s.2.1 == t.2.1
def hasP(b:List Stp)(s:Stp):Bool:=b.any fun t=>ple s t
def extN(a b:List Stp):Nat:=(a.filter fun s=>!hasP b s).length
def dstE(a b:Ev):Int:=extN a.stops b.stops+extN b.stops a.stops+(if tkV a.val a.dot a.three=tkV b.val b.dot b.three then 0 else 1)+(if a.tie=b.tie then 0 else 1)
def alnE(e:Ev):Int:=1+e.stops.length
theorem extN_le(a b:List Stp):extN a b≤a.length:=List.length_filter_le _ _
def extK (a b:List Stp)(k:Nat):Nat:=extN (a.take k) b
theorem extK_succ {a b:List Stp} {k:Nat} (h:k<a.length):extK a b (k+1)=if hasP b a[k]=true then extK a b k else extK a b k+1:=by
 unfold extK extN
 rw [List.take_succ_eq_append_getElem h,List.filter_append,List.length_append]
 cases hp:hasP b a[k]with
 | true=>simp [List.filter_cons,hp]
 | false=>simp [List.filter_cons,hp]
theorem extK_all(a b:List Stp):extK a b a.length=extN a b:=by unfold extK;rw [List.take_length]
theorem extK_le (a b:List Stp)(k:Nat):extK a b k≤k:=by
 have:=extN_le (a.take k) b
 rw [List.length_take] at this
 unfold extK;omega
theorem dstE_bd(a b:Ev):0≤dstE a b∧dstE a b≤a.stops.length+b.stops.length+2:=by
 have h1:=extN_le a.stops b.stops
 have h2:=extN_le b.stops a.stops
 unfold dstE
 split<;>split<;>omega
def csE:List Ev→Int
 | []=>0
 | y::s=>alnE y+csE s
def csI (x:Ev) (f:List Ev→Int):List Ev→Int
 | []=>alnE x+f []
 | y::s=>min (min (dstE x y+f s) (alnE x+f (y::s))) (alnE y+csI x f s)
def cst:List Ev→List Ev→Int
 | []=>csE
 | x::r=>csI x (cst r)
theorem alnE_pos(e:Ev):1≤alnE e:=by unfold alnE;omega
theorem csE_nn:∀ l,0≤csE l
 | []=>Int.le_refl _
 | y::s=>by have:=csE_nn s;have:=alnE_pos y;unfold csE;omega
theorem csI_nn {x:Ev} {f:List Ev→Int} (hf:∀ l,0≤f l):∀ l,0≤csI x f l
 | []=>by have:=hf [];have:=alnE_pos x;unfold csI;omega
 | y::s=>by
  have h1:=csI_nn (x:=x) hf s
  have h2:=hf s
  have h3:=hf (y::s)
  have h4:=alnE_pos x
  have h5:=alnE_pos y
  have h6:=(dstE_bd x y).1
  unfold csI;omega
theorem cst_nn:∀ a b,0≤cst a b
 | [],b=>csE_nn b
 | x::r,b=>csI_nn (cst_nn r) b
theorem cst_le:∀ a b,cst a b≤csE a+csE b
 | [],b=>by show csE b≤csE []+csE b;unfold csE;have:=csE_nn b;cases b<;>simp [csE]
 | x::r,[]=>by
  have:=cst_le r []
  show alnE x+cst r []≤(alnE x+csE r)+csE []
  omega
 | x::r,y::s=>by
  have:=cst_le r (y::s)
  show min (min (dstE x y+cst r s) (alnE x+cst r (y::s))) (alnE y+csI x (cst r) s)≤(alnE x+csE r)+csE (y::s)
  omega
theorem csE_bd {l:List Ev} (h:∀ e∈l,e.stops.length≤20):csE l≤21*l.length:=by
 induction l with
 | nil=>simp [csE]
 | cons y s ih =>
  have h1:=ih fun e he=>h e (List.mem_cons_of_mem _ he)
  have h2:=h y (by simp)
  simp only [csE,alnE,List.length_cons];omega
def csA (a b:List Ev) (i k:Nat):Int:=cst (a.drop i) (b.drop k)
theorem csA_nn(a b:List Ev)(i k:Nat):0≤csA a b i k:=cst_nn _ _
theorem csA_bd {a b:List Ev} (ha:∀ e∈a,e.stops.length≤20) (hb:∀ e∈b,e.stops.length≤20) (i k:Nat):csA a b i k≤21*(a.length+b.length):=by
 have h1:=cst_le (a.drop i) (b.drop k)
 have h2:=csE_bd (l:=a.drop i) fun e he=>ha e (List.mem_of_mem_drop he)
 have h3:=csE_bd (l:=b.drop k) fun e he=>hb e (List.mem_of_mem_drop he)
 rw [List.length_drop] at h2 h3
 unfold csA;omega
theorem csA_end {a b:List Ev}:csA a b a.length b.length=0:=by unfold csA;rw [List.drop_length,List.drop_length];rfl
theorem csA_r {a b:List Ev} {k:Nat} (h:k<b.length):csA a b a.length k=alnE b[k]+csA a b a.length (k+1):=by
 unfold csA;rw [List.drop_length,List.drop_eq_getElem_cons h];rfl
theorem csA_l {a b:List Ev} {i:Nat} (h:i<a.length):csA a b i b.length=alnE a[i]+csA a b (i+1) b.length:=by
 unfold csA;rw [List.drop_length,List.drop_eq_getElem_cons h];rfl
theorem csA_b {a b:List Ev} {i k:Nat} (h:i<a.length) (h2:k<b.length):csA a b i k=min (min (dstE a[i] b[k]+csA a b (i+1) (k+1)) (alnE a[i]+csA a b (i+1) k)) (alnE b[k]+csA a b i (k+1)):=by
 have e:csA a b i k=cst (a[i]::a.drop (i+1)) (b[k]::b.drop (k+1)):=by unfold csA;rw [List.drop_eq_getElem_cons h,List.drop_eq_getElem_cons h2]
 have e1:csA a b (i+1) k=cst (a.drop (i+1)) (b[k]::b.drop (k+1)):=by unfold csA;rw [List.drop_eq_getElem_cons h2]
 have e2:csA a b i (k+1)=csI a[i] (cst (a.drop (i+1))) (b.drop (k+1)):=by unfold csA;rw [List.drop_eq_getElem_cons h];rfl
 rw [e,e1,e2];rfl
def rowA (a b:List Ev)(i:Nat):List Int:=(List.range (b.length+1)).map fun k=>csA a b i k
theorem rowA_len(a b:List Ev)(i:Nat):(rowA a b i).length=b.length+1:=by simp [rowA]
theorem rowA_at {a b:List Ev} {i k:Nat} (h:k≤b.length):(rowA a b i)[k]?=some (csA a b i k):=by
 unfold rowA
 rw [List.getElem?_map,List.getElem?_range (by omega)];rfl
def rowK(a b:List Ev)(i k:Nat):List Int:=List.replicate k 0++(rowA a b i).drop k
theorem rowK_len {a b:List Ev} {i k:Nat} (h:k≤b.length+1):(rowK a b i k).length=b.length+1:=by
 unfold rowK;rw [List.length_append,List.length_replicate,List.length_drop,rowA_len];omega
theorem rowK_top (a b:List Ev)(i:Nat):rowK a b i (b.length+1)=List.replicate (b.length+1) 0:=by
 unfold rowK
 rw [List.drop_eq_nil_of_le (by rw [rowA_len];omega),List.append_nil]
theorem rowK_zero(a b:List Ev)(i:Nat):rowK a b i 0=rowA a b i:=by unfold rowK;simp
theorem rowK_set {a b:List Ev} {i k:Nat} (h:k≤b.length):(rowK a b i (k+1)).set k (csA a b i k)=rowK a b i k:=by
 have hl:k<(rowA a b i).length:=by rw [rowA_len];omega
 unfold rowK
 rw [List.replicate_succ',List.append_assoc,List.set_append_right _ _ (by simp),List.length_replicate,Nat.sub_self]
 rw [List.drop_eq_getElem_cons hl]
 have:(rowA a b i)[k]=csA a b i k:=by
  have:=rowA_at (a:=a) (b:=b) (i:=i) h
  rw [List.getElem?_eq_getElem hl] at this
  exact Option.some.inj this
 rw [this];rfl
theorem rowK_at {a b:List Ev} {i k j:Nat} (h:j≤b.length)(h2:k≤j):(rowK a b i k)[j]?=some (csA a b i j):=by
 unfold rowK
 rw [List.getElem?_append_right (by simpa using h2),List.length_replicate,List.getElem?_drop,show k+(j-k)=j by omega]
 exact rowA_at h
theorem rowK_0 {a b:List Ev} {i k:Nat}:(rowK a b i (k+1))[k]?=some 0:=by
 unfold rowK
 rw [List.getElem?_append_left (by simp),List.getElem?_replicate]
 simp
def dsA(a b:List Ev)(i k:Nat):Int:=match a[i]?,b[k]? with
 | some x,some y=>dstE x y
 | _,_=>0
def alA(a:List Ev)(i:Nat):Int:=match a[i]? with
 | some x=>alnE x
 | none=>0
theorem dsA_at {a b:List Ev} {i k:Nat} (h:i<a.length)(h2:k<b.length):dsA a b i k=dstE a[i] b[k]:=by unfold dsA;rw [List.getElem?_eq_getElem h,List.getElem?_eq_getElem h2]
theorem alA_at {a:List Ev} {i:Nat} (h:i<a.length):alA a i=alnE a[i]:=by unfold alA;rw [List.getElem?_eq_getElem h]
def prs (a b:List Ev):Nat→Nat→Nat→List (Int×Int)
 | 0,_,_=>[]
 | f+1,i,k =>
  if i<a.length∧k<b.length∧csA a b i k=dsA a b i k+csA a b (i+1) (k+1) then ((i:Int),(k:Int))::prs a b f (i+1) (k+1)
  else if i<a.length∧csA a b i k=alA a i+csA a b (i+1) k then ((i:Int),-1)::prs a b f (i+1) k
  else if k<b.length then (-1,(k:Int))::prs a b f i (k+1)
  else []
def prsA (a b:List Ev):List (Int×Int):=prs a b (a.length+b.length) 0 0
theorem prs_end {a b:List Ev}:∀ f,prs a b f a.length b.length=[]
 | 0=>rfl
 | f+1=>by
  unfold prs
  rw [if_neg (fun h=>Nat.lt_irrefl _ h.1),if_neg (fun h=>Nat.lt_irrefl _ h.1),if_neg (Nat.lt_irrefl _)]
theorem prs_b {a b:List Ev} {f i k:Nat} (h:i<a.length) (h2:k<b.length) (h3:csA a b i k=dsA a b i k+csA a b (i+1) (k+1)):prs a b (f+1) i k=((i:Int),(k:Int))::prs a b f (i+1) (k+1):=if_pos ⟨h,h2,h3⟩
theorem prs_l {a b:List Ev} {f i k:Nat} (h:i<a.length) (h3:¬ (k<b.length∧csA a b i k=dsA a b i k+csA a b (i+1) (k+1))) (h4:csA a b i k=alA a i+csA a b (i+1) k):prs a b (f+1) i k=((i:Int),-1)::prs a b f (i+1) k:=by
 show (if _ then _ else if _ then _ else _)=_
 rw [if_neg (fun x=>h3 x.2),if_pos ⟨h,h4⟩]
theorem prs_r {a b:List Ev} {f i k:Nat} (h2:k<b.length) (h3:¬ (i<a.length∧csA a b i k=dsA a b i k+csA a b (i+1) (k+1))) (h4:¬ (i<a.length∧csA a b i k=alA a i+csA a b (i+1) k)):prs a b (f+1) i k=(-1,(k:Int))::prs a b f i (k+1):=by
 show (if _ then _ else if _ then _ else if _ then _ else _)=_
 rw [if_neg (fun x=>h3 ⟨x.1,x.2.2⟩),if_neg h4,if_pos h2]
theorem prs_fuel {a b:List Ev}:∀ {f i k:Nat},i≤a.length→k≤b.length→a.length-i+(b.length-k)≤f→prs a b (f+1) i k=prs a b f i k
 | 0,i,k,hi,hk,h=>by
  obtain rfl:i=a.length:=by omega
  obtain rfl:k=b.length:=by omega
  rw [prs_end,prs_end]
 | f+1,i,k,hi,hk,h=>by
  show (if _ then _ else if _ then _ else if _ then _ else _)=(if _ then _ else if _ then _ else if _ then _ else _)
  by_cases h1:i<a.length∧k<b.length∧csA a b i k=dsA a b i k+csA a b (i+1) (k+1)
  ·rw [if_pos h1,if_pos h1,prs_fuel (by omega) (by omega) (by omega)]
  ·rw [if_neg h1,if_neg h1]
   by_cases h2:i<a.length∧csA a b i k=alA a i+csA a b (i+1) k
   ·rw [if_pos h2,if_pos h2,prs_fuel (by omega) hk (by omega)]
   ·rw [if_neg h2,if_neg h2]
    by_cases h3:k<b.length
    ·rw [if_pos h3,if_pos h3,prs_fuel hi (by omega) (by omega)]
    ·rw [if_neg h3,if_neg h3]
end
section
open Go.RowKit
def stripE(e:Ev):List Stp×Bool:=(e.stops,e.tie)
theorem runL_strip {c:Int}:∀ (k:Nat) {l m:List Ev},l.map stripE=m.map stripE→runL c k l=runL c k m
 | 0,l,m,_=>by simp [runL]
 | k+1,[],[],_=>rfl
 | k+1,[],y::m,h=>by simp at h
 | k+1,x::l,[],h=>by simp at h
 | k+1,x::l,y::m,h=>by
  rw [List.map_cons,List.map_cons] at h
  obtain⟨h1,h2⟩:=List.cons.inj h
  unfold stripE at h1
  obtain⟨h3,h4⟩:=Prod.mk.inj h1
  have ih:=runL_strip (c:=c) k h2
  unfold runL restB
  rw [h3,h4,ih]
theorem longestN_strip {l m:List Ev} (h:l.map stripE=m.map stripE) (i c:Int):longestN l i c=longestN m i c:=by
 have hl:l.length=m.length:=by have:=congrArg List.length h;simpa using this
 unfold longestN
 rw [hl,runL_strip 15 (l:=l.drop (i.toNat+1)) (m:=m.drop (i.toNat+1)) (by rw [List.map_drop,List.map_drop,h])]
theorem stopE_strip {p q:Pce} (hc:p.cs=q.cs)(h:p.evs.map stripE=q.evs.map stripE)(i:Int)(s:Stp)(last:Int):stopE p i s last=stopE q i s last:=by
 unfold stopE
 rw [hc,longestN_strip h]
theorem stopsE_strip {p q:Pce} (hc:p.cs=q.cs)(h:p.evs.map stripE=q.evs.map stripE)(i:Int):∀ (l:List Stp)(last:Int),stopsE p i last l=stopsE q i last l
 | [],_=>rfl
 | s::r,last=>by
  show(if stopE p i s last≠0 then _ else _)=(if stopE q i s last≠0 then _ else _)
  rw [stopE_strip hc h,stopsE_strip hc h i r]
theorem plN_get {evs:List Ev}:∀ {n k:Nat} (h:k<n) (hn:n≤evs.length),(plN evs n)[k]'(by rw [plN_length hn];exact h)=sgW (evs[k]'(by omega)) (sgF evs (k+1))
 | 0,k,h,_=>absurd h (Nat.not_lt_zero k)
 | n+1,k,h,hn=>by
  have e:=plN_at (evs:=evs) (k:=n) zqo
  have hl:(plN evs n).length=n:=plN_length zqo
  have key:(plN evs (n+1))[k]?=some (sgW (evs[k]' zqo) (sgF evs (k+1))):=by
   rw [e]
   by_cases hk:k<n
   ·rw [List.getElem?_append_left (by omega),List.getElem?_eq_getElem (by omega),plN_get hk (by omega)]
   ·obtain rfl:k=n:=by omega
    rw [List.getElem?_append_right (by omega),hl,Nat.sub_self];rfl
  rw [List.getElem?_eq_getElem (by rw [plN_length hn];exact h)]at key
  exact Option.some.inj key
theorem plE_strip (p:Pce):(plE p).map stripE=p.evs.map stripE:=by
 apply List.ext_getElem (by rw [List.length_map,List.length_map,plE_length])
 intro k h1 h2
 have hk:k<p.evs.length:=by simpa using h2
 rw [List.getElem_map,List.getElem_map]
 have:=plN_get (evs:=p.evs) hk (Nat.le_refl _)
 unfold plE
 rw [this];rfl
theorem sgF_val {p:Pce} (h0:pceE p=0):∀ k,k<p.evs.length→(sgF p.evs (k+1)).1≠0∧sgOk (sgF p.evs (k+1)).1 (sgF p.evs (k+1)).2.1 (sgF p.evs (k+1)).2.2=true
 | 0,h=>by
  obtain ⟨a,b,_,_⟩:=evE_zero ((pceE_zero h0).2.2 0 h)
  rw [sgF_at h]
  have hv:p.evs[0].val≠0:=fun hv=>b ⟨rfl,hv⟩
  rw [if_neg hv]
  exact ⟨hv,a⟩
 | k+1,h=>by
  obtain ⟨a,b,_,_⟩:=evE_zero ((pceE_zero h0).2.2 (k+1) h)
  rw [sgF_at h]
  by_cases hv:p.evs[k+1].val=0
  ·rw [if_pos hv]
   exact sgF_val h0 k zqo
  ·rw [if_neg hv]
   exact ⟨hv,a⟩
theorem evsE_all {p:Pce}:∀ {l:List Ev} {n:Nat},(∀ k (h:k<l.length),evE p ((n+k:Nat):Int) l[k]=0)→evsE p n l=0
 | [],n,_=>rfl
 | e::r,n,h=>by
  have h0:=h 0 (by simp)
  simp only [Nat.add_zero,List.getElem_cons_zero] at h0
  have e1:evsE p n (e::r)=evsE p (n+1) r:=if_neg (by rw [h0];simp)
  rw [e1]
  refine evsE_all fun k hk=>?_
  have:=h (k+1) (by simpa using hk)
  rw [show n+1+k=n+(k+1) by omega]
  simpa using this
theorem pceE_pl {p:Pce} (h0:pceE p=0):pceE ⟨p.cs,p.st,plE p⟩=0:=by
 obtain ⟨h1,h2,h3⟩:=pceE_zero h0
 have hl:=plE_length p
 unfold pceE
 rw [if_neg (by simpa using h1),if_neg (by show ¬ 400<(plE p).length;omega)]
 refine evsE_all fun k hk=>?_
 have hk':k<p.evs.length:=by rw [← hl];exact hk
 obtain ⟨a,b,c,d⟩:=evE_zero (h3 k hk')
 obtain ⟨s1,s2⟩:=sgF_val h0 k hk'
 have he:(plE p)[k]'hk=sgW p.evs[k] (sgF p.evs (k+1)):=plN_get hk' (Nat.le_refl _)
 have hst:=stopsE_strip (p:=⟨p.cs,p.st,plE p⟩) (q:=p) rfl (plE_strip p) (k:Int) p.evs[k].stops 0
 show evE ⟨p.cs,p.st,plE p⟩ ((0+k:Nat):Int) ((plE p)[k]'hk)=0
 rw [Nat.zero_add,he]
 unfold evE
 rw [if_neg (by
  rintro (h|h)
  ·have h:sgOk (sgF p.evs (k+1)).1 (sgF p.evs (k+1)).2.1 (sgF p.evs (k+1)).2.2=false:=h
   rw [s2] at h;cases h
  ·exact s1 h.2),if_neg (show ¬ ((sgW p.evs[k] (sgF p.evs (k+1))).tie=true∧(0<(sgW p.evs[k] (sgF p.evs (k+1))).stops.length∨(k:Int)=0)) from c)]
 show stopsE ⟨p.cs,p.st,plE p⟩ k 0 p.evs[k].stops=0
 rw [hst];exact d
end
end Go.Proofs.YtgelfflighgajaaGreatDoor
