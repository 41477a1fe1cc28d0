/- How big a piece is; the look at the examples. -/
import Derived.Below
import Derived.ChangeSame
import Derived.Lib.SmallJoins
import Derived.Deep.Fields
import Derived.RangeFuncNested
import Derived.RangeFuncBound
import Derived.RangeFuncCalls
import Derived.RangeFuncLeaves
import Derived.RangeFuncBox
import Derived.Shelf.Abstract
import Derived.Shelf.RegionOpen
import Derived.OwnWalkIn
import Derived.TacticsInMore
import Derived.LoopNIn
import Derived.LoopIn
import Derived.Test.YtgelfflighgajaaGreatDoorPChSq
import Derived.Test.YtgelfflighgajaaGreatDoorBigSq
import Derived.Test.YtgelfflighgajaaGreatDoorMk1Sq
set_option linter.unusedVariables false
set_option linter.unusedSimpArgs false
namespace Go.Proofs.YtgelfflighgajaaGreatDoor
open Go.RowKit Go.WideShapes Go.ChangeShapes Go.Joins Go.Deep
section
variable {H:Type} {enc:TypeId×Value→H} {P:Program} {w:World} {base:Nat} {spare:Nat→Bool} {held:Bool}
theorem post_of_below {f:Func} {s:ChangeSpec} {apart fresh handsOn again:Bool} {W W':World} {args:Array Value} {v:Value} {ds gs:List (DataW H)} {before pa pv:List MemPlace}
  (hW:DataW.Whole enc P f.params.toList s.vars apart W args.toList ds gs before)
  (hres:∀ (b:Nat) (sp:Nat→Bool) (hd:Bool),DataW.TrodAll enc P W' b sp hd f.resultTypes.toList (v.resultList f.resultTypes.size) (s.fn H (ds++gs)).results [])
  (hargs:∀ sp:Nat→Bool,(∀ p∈before,sp p.block=true)→DataW.TrodAll enc P W' 0 sp true f.params.toList args.toList (s.fn H (ds++gs)).args pa)
  (hvars:∀ sp:Nat→Bool,(∀ p∈before,sp p.block=true)→DataW.TrodVars enc P W' sp s.vars (s.fn H (ds++gs)).vars pv)
  (hps:before=pa++pv) (hb:Below W.heap.size W W')
  (hok:∀ (j:Nat) (t:TypeId) (r:Value),f.resultTypes[j]?=some t→(v.resultList f.resultTypes.size)[j]?=some r→Value.okWide P W' .any 0 t r) :
  s.post enc P f apart fresh handsOn again W args v W':=by
 have hlt:∀ p∈before,p.block<W.heap.size:=fun p hp=>hW.lt p hp
 have hold:∀ p∈before,(fun b=>decide (b<W.heap.size)) p.block=true:=fun p hp=>by simpa using hlt p hp
 refine ⟨ds,gs,before,[],pa,pv,hW,hres _ _ _,hargs _ hold,hvars _ hold,World.keptBut_mono (fun p hp=>⟨hp,?_⟩) (hb.frame (·∈before)),fun _=>?_⟩
 ·rw [hps,List.mem_append] at hp
  exact Or.inr hp
 ·obtain ⟨_,_,_,_,_,hz,hn⟩:=hW
  refine ⟨hok,_,_,([]++pa)++pv,⟨[]++pa,pv,trodAll_append (hargs _ (fun _ _=>rfl)) (hres _ _ _),hvars _ (fun _ _=>rfl),rfl,?_,?_⟩,?_⟩
  ·intro b off hp
   have hin:MemPlace.cell b off∈before:=by rw [hps];simpa using hp
   rw [hb.frozen (hlt _ hin)]
   exact hz b off hin
  ·intro ha
   have:=hn ha
   rw [hps] at this
   simpa using this
  ·intro p hp _
   rw [hps]
   simpa using hp
end
end Go.Proofs.YtgelfflighgajaaGreatDoor
namespace Go.Proofs.YtgelfflighgajaaGreatDoor
open Go.RowKit Go.Shelf
set_option maxHeartbeats 8000000
set_option maxRecDepth 100000
attribute [local go_sem] Oper.semAt_some
def frc:Int→List Ev→Int
 | t,[]=>t
 | t,e::r=>frc (if 0<tkV e.val e.dot e.three then tkV e.val e.dot e.three else t) r
theorem frc_snoc (e:Ev):∀ (t:Int) (l:List Ev),frc t (l++[e])=if 0<tkV e.val e.dot e.three then tkV e.val e.dot e.three else frc t l
 | t,[]=>rfl
 | t,x::l=>frc_snoc e _ l
theorem frc_take {evs:List Ev} {k:Nat} (h:k<evs.length) (t:Int):frc t (evs.take (k+1))=if 0<tkV evs[k].val evs[k].dot evs[k].three then tkV evs[k].val evs[k].dot evs[k].three else frc t (evs.take k):=by
 rw [List.take_succ_eq_append_getElem h,frc_snoc]
theorem grown_of_below {a b:World} (h:Below a.heap.size a b) (row:Option Nat):a.grownBy b row:=⟨h.os,h.tape,h.output,h.size,fun k hk _=>h.block k hk⟩
theorem timed1_in (n:Nat) (hn:1≤n) (l Bp n₀ len c:Nat) (A:Option Addr) (evs:List Ev) (hlen:evs.length=len) (hO:len≤420) (B0:Nat) (J:Nat→World→Prop) (hJ:AbidesFrom B0 J)
  (hY:∀ k W,J k W→k < len→YieldAt Fence.wide (n - 1) Tryz.prog l #[.int .i64 (k:Int),.int .i64 (frc 0 (evs.take (k+1)))] W fun e W'=>e=.returned (.bool true)∧J (k+1) W'∧Below n₀ W W')
  (W:World) (hn₀:n₀≤W.heap.size) (hc:W.cell? ⟨Bp,2,none⟩=some (.slice A len c)) (hE:EvsAt W n₀ A evs) (h0:J 0 W) :
  CallsIn Fence.wide n Tryz.prog 212 #[.func (.yield l) #[] #[],.pointer (some ⟨Bp,0,none⟩)] W fun e W'=>(∃ v,e=.returned v)∧J len W':=by
 have HE:=Lib.hid hE
 have HJ:=Lib.hid hJ
 have HL:=Lib.hid hlen
 clear hE hlen
 refine callsIn_of_wp Tryz.func212 rfl trivial ?_ rfl
 simp only [Tryz.ntmps212,List.size_toArray,List.length_cons,List.length_nil,Nat.reduceAdd,Nat.reduceSub,Array.replicate_succ,Array.replicate_zero,List.push_toArray,List.append_toArray,List.nil_append,List.cons_append]
 gi_wp2
 gi_loopw [3,10] (fun t i wr=>∃ k:Nat,k≤len∧i=.int .i64 k∧t=.int .i64 (frc 0 (evs.take k))∧J k wr∧Below n₀ W wr)
  (fun _ i _=>len - (intOf i).toNat)
 case atStart=>exact ⟨0,Nat.zero_le _,rfl,rfl,h0,Below.refl _ _⟩
 case round =>
  obtain ⟨k,hk,rfl,rfl,hJs,hnx⟩:=hrel
  have HX:=Lib.hid hnx
  by_cases hlt:k < len
  ·have hk2:k < evs.length:=by have:=HL.out;omega
   obtain ⟨ad,S,c',hA,hb,e0,e1,e2,e3,e4,e5,hS⟩:=(HE.out.below hnx).ev hk2
   subst hA
   have hfr:=frc_take hk2 0
   have KT:=Lib.hid (fun w=>ticks_any evs[k].val evs[k].dot evs[k].three w)
   obtain ⟨T,hT⟩:∃ T,tkV evs[k].val evs[k].dot evs[k].three=T:=⟨_,rfl⟩
   rw [hT] at hfr KT
   obtain ⟨e,he⟩:∃ e,evs[k]=e:=⟨_,rfl⟩
   rw [he] at e0 e1 e2 e3 e4 e5 KT
   obtain ⟨m,hm⟩:∃ m,e.stops.length=m:=⟨_,rfl⟩
   rw [hm] at e5
   clear hS hT
   have HFR:=Lib.hid hfr
   have HY:=hY k
   by_cases hT0:0 < T
   ·rw [if_pos hT0] at HFR
    gi_wp2_with (refine ⟨trivial,?_⟩;gi_at_call 178;refine (callsIn_wide.2 (KT.out _)).mono ?_;rintro e' w1 ⟨rfl,hb1⟩;have hbb:Below wr.heap.size wr w1:=((Below.refl _ wr).alloc (Nat.le_refl _) _).trans (hb1.mono (by simp));have HBB:=Lib.hid hbb;obtain ⟨fn,tmps,assign,body,hy,hR⟩:=HY w1 (HJ.out _ wr w1 none hJs (grown_of_below hbb _) (fun r h=>by cases h)) hlt;clear hbb;rw [HFR.out] at hy)
    refine hR.mono ?_
    rintro e W3 ⟨rfl,hJ3,hk3⟩
    gi_wp2
    go_roundw
    case rel=>exact ⟨k+1,by omega,by go_num,by rw [HFR.out],hJ3,(HX.out.trans (HBB.out.mono (by have:=HX.out.size;omega))).trans hk3⟩
    case measure=>simp [intOf];omega
   ·rw [if_neg hT0] at HFR
    obtain ⟨T0,hT0'⟩:∃ T0,frc 0 (evs.take k)=T0:=⟨_,rfl⟩
    rw [hT0'] at HFR
    rw [hT0']
    gi_wp2_with (refine ⟨trivial,?_⟩;gi_at_call 178;refine (callsIn_wide.2 (KT.out _)).mono ?_;rintro e' w1 ⟨rfl,hb1⟩;have hbb:Below wr.heap.size wr w1:=((Below.refl _ wr).alloc (Nat.le_refl _) _).trans (hb1.mono (by simp));have HBB:=Lib.hid hbb;obtain ⟨fn,tmps,assign,body,hy,hR⟩:=HY w1 (HJ.out _ wr w1 none hJs (grown_of_below hbb _) (fun r h=>by cases h)) hlt;clear hbb;rw [HFR.out] at hy)
    refine hR.mono ?_
    rintro e W3 ⟨rfl,hJ3,hk3⟩
    gi_wp2
    go_roundw
    case rel=>exact ⟨k+1,by omega,by go_num,by rw [HFR.out],hJ3,(HX.out.trans (HBB.out.mono (by have:=HX.out.size;omega))).trans hk3⟩
    case measure=>simp [intOf];omega
  ·obtain rfl:k=len:=by omega
   gi_wp2
   go_end0
   exact ⟨⟨_,rfl⟩,hJs⟩
theorem timed_any (M:PM) (p:Pce) (w:World):Calls Tryz.prog 173 #[pcValue M p] w fun e w'=>e=.returned (.func (.func 212) #[] #[.pointer (some ⟨w.heap.size,0,none⟩)]) ∧
  w'=w.alloc (.cells #[.slice M.A1 p.cs.length M.c1,.slice M.A2 p.st.length M.c2,.slice M.A3 p.evs.length M.c3] 28):=by
 unfold pcValue
 go_enter Tryz.func173,Tryz.ntmps173
 go_wp2
 go_ret
 exact ⟨rfl,rfl⟩
def rngPost (n₀:Nat) (I:Nat→World→Prop) (k:Nat) (W:World):Exit→Act→World→Prop
 | .normal,_,W'=>KeepsOthers W W'∧Below n₀ W W'∧I (k+1) W'
 | _,_,_=>False
theorem wp_range {P:Program} {n:Nat} {g:Operand} {ps:Array Tmp} {assign body:Code} {Q:Exit→Act→World→Prop} {a:Act} {w:World} {gf:Nat} {lb:Array Value}
  (hg:a.eval g=.func (.func gf) #[] lb) (eg:∀ args w,(callFunc gf args).run P w=.ok (.enter gf args) w) {encs:Nat→Array Value} {len n₀:Nat} (hn₀:n₀≤w.heap.size)
  (hit:∀ (l:Nat) (J:Nat→World→Prop) (W:World),Below w.heap.size w W→AbidesFrom W.heap.size J →
   (∀ k W1,J k W1→k < len→YieldAt Fence.wide (n - 1 - 1) P l (encs k) W1 fun e W'=>e=.returned (.bool true)∧J (k+1) W'∧Below n₀ W1 W')→J 0 W →
   CallsIn Fence.wide (n - 1) P gf (#[.func (.yield l) #[] #[]]++lb) W fun e W'=>(∃ v,e=.returned v)∧J len W')
  (hps:∀ k,(encs k).size=ps.size) (I:Nat→World→Prop) (hI:OwnFrom w.heap.size I) (h0:I 0 w) (a₁:Nat→Act)
  (hassign:∀ (l k:Nat) (W:World) (K:Act→World→Prop),K (a₁ k) W →
   assign.wpIn (Fence.wide.inRound l) (n - 1 - 1) P (Exit.then K (fun _ _ _=>False)) { tmps:=(ps.zip (encs k)).foldl (fun t (p,v)=>t.setIfInBounds p v) a.tmps,defers:=[] } W)
  (hbody:∀ (l k:Nat) (W:World),I k W→k < len→body.wpIn (Fence.wide.inRound l) (n - 1 - 1) P (rngPost n₀ I k W) (a₁ k) W)
  (hdone:∀ (D:Nat) (W:World),w.heap.size≤D→I len W→W.heap[D]?=some (.deferred (some []))→Q .normal { a with defers:={ target:=.collected D,args:=#[] }::a.defers } W) :
  (Code.rangeFunc g ps assign body).wpIn Fence.wide n P Q a w:=by
 refine wpIn_rangeFunc fun fn hfn=>?_
 obtain ⟨rec,hrec⟩:∃ rec:LoopState→Option Code→Loop,rec=fun st pe=>{ state:=st,pending:=pe,fn,tmps:=a.tmps,params:=ps,assign,body,defers:=w.heap.size }:=⟨_,rfl⟩
 obtain ⟨W1,hW1⟩:∃ W1,(w.alloc (.deferred (some []))).alloc (.loop (rec .ready none))=W1:=⟨_,rfl⟩
 have hL:W1.heap[w.heap.size+1]?=some (.loop (rec .ready none)):=by
  have:=World.alloc_heap_new (w.alloc (.deferred (some []))) (.loop (rec .ready none))
  rwa [World.size_alloc,hW1] at this
 have hD:W1.heap[w.heap.size]?=some (.deferred (some [])):=by
  rw [← hW1];exact (Below.heap_alloc _ _ _ (by simp)).trans (World.alloc_heap_new w _)
 have hB1:Below w.heap.size w W1:=by rw [← hW1];exact ((Below.refl _ w).alloc (Nat.le_refl _) _).alloc (by simp) _
 have hS1:w.heap.size≤W1.heap.size:=hB1.size
 refine ⟨w.heap.size+1,[{ target:=.collected w.heap.size,args:=#[] }],W1,{ target:=.fn (.func gf) lb,args:=#[.func (.yield (w.heap.size+1)) #[] #[]] },W1,gf,
  #[.func (.yield (w.heap.size+1)) #[] #[]]++lb,W1,?_,?_,fun _ _=>trivial,?_,fun h=>?_,?_⟩
 ·rw [← hW1,hrec];exact run_enterLoop_outer _ _ _ _ _
 ·simp only [resolve,hg]
  simp [go_sem]
 ·simp [invoke,go_sem,eg]
 ·simp [Fence.wide] at h
 ·have turn:∀ {A B:World} {row:Option Nat} {k:Nat} {o:Obj},A.grownBy B row→(∀ r,row=some r→W1.heap.size≤r∧∃ o:Obj,A.heap[r]?=some o∧o.isWalk=true)→A.heap[k]?=some o→o.isWalk=false→B.heap[k]?=some o :=
   fun hg' hr hk ho=>(grownBy_keeps hg' (fun r e=>(hr r e).2) hk ho).trans hk
  refine (hit (w.heap.size+1) (fun k W=>I k W∧W.heap[w.heap.size+1]?=some (.loop (rec .ready none))∧W.heap[w.heap.size]?=some (.deferred (some []))) W1 hB1
   (fun s A B row hs hg' hr=>⟨hI s A B row hs.1 hg' fun r e=>⟨Nat.le_trans hS1 (hr r e).1,(hr r e).2.imp fun o h=>⟨h.1,Obj.not_cells_of_walk h.2⟩⟩,turn hg' hr hs.2.1 rfl,turn hg' hr hs.2.2 rfl⟩)
   ?_ ⟨by rw [← hW1];exact hI.alloc _ (hI.alloc _ h0),hL,hD⟩).mono ?_
  ·rintro k W ⟨hi,hl,hd⟩ hk
   have hlt:w.heap.size+1 < W.heap.size:=(Array.getElem?_eq_some_iff.1 hl).1
   have hy:=run_yield (P:=P) (args:=encs k) hl (by rw [hrec];exact hps k)
   rw [hrec] at hy
   refine ⟨fn,_,assign,body,hy,roundIn_of_wpIn hfn (hassign _ k W _ ⟨_,run_beginRound hl (by rw [hrec]),?_⟩)⟩
   obtain ⟨W2,hW2⟩:∃ W2,W.putObj (w.heap.size+1) (.loop { rec .ready none with state:=.busy })=W2:=⟨_,rfl⟩
   have hl2:W2.heap[w.heap.size+1]?=some (.loop { rec .ready none with state:=.busy }):=by rw [← hW2];exact World.putObj_heap_same hlt
   have hd2:W2.heap[w.heap.size]?=some (.deferred (some [])):=by rw [← hW2];exact (World.putObj_heap_other (by omega)).trans hd
   have hb2:Below n₀ W W2:=by rw [← hW2];exact belowK_b hn₀ W _ _ _ (by omega) hl rfl rfl
   have hi2:I k W2:=by rw [← hW2];exact hI.putObj _ hi (by omega) hl rfl
   rw [hW2]
   refine wpIn_mono (hbody _ k W2 hi2 hk) ?_
   rintro e a3 W3 hp
   cases e with
   | normal =>
    obtain ⟨hk3,hb3,hi3⟩:=hp
    have hl3:=hk3.same _ _ hl2 rfl
    have hr:=run_endRound (P:=P) none hl3
    rw [hrec] at hr
    refine ⟨_,_,hr,rfl,⟨hI.putObj _ hi3 (by omega) hl3 rfl,?_,(World.putObj_heap_other (by omega)).trans (hk3.same _ _ hd2 rfl)⟩,(hb2.trans hb3).trans (belowK_b hn₀ W3 _ _ _ (by omega) hl3 rfl rfl)⟩
    rw [hrec]
    exact World.putObj_heap_same (Array.getElem?_eq_some_iff.1 hl3).1
   | ret=>exact hp.elim
   | exit id=>exact hp.elim
   | goto t=>exact hp.elim
   | panic ch=>exact hp.elim
   | outgrown=>exact hp.elim
  ·rintro e W2 ⟨⟨v,rfl⟩,hi,hl,hd⟩
   have hr:=run_endLoop (P:=P) hl (by rw [hrec];simp)
   rw [hrec] at hr
   exact ⟨none,_,hr,hdone _ _ (Nat.le_refl _) (hI.putObj _ hi (by omega) hl rfl) ((World.putObj_heap_other (by omega)).trans hd)⟩
end Go.Proofs.YtgelfflighgajaaGreatDoor
namespace Go.Proofs.YtgelfflighgajaaGreatDoor
open Go.RowKit Go.Shelf
set_option maxHeartbeats 8000000
set_option maxRecDepth 100000
attribute [local go_sem] Oper.semAt_some
attribute [-go_sem] Builtin.append_
theorem tkAll2:((List.range' 1 7).all fun v=>[(false,false),(true,false),(false,true)].all fun p=>decide (tkV (v:Nat) p.1 p.2≤1000))=true:=by decide +kernel
theorem tkV_le (v:Int) (d t:Bool):0≤tkV v d t∧tkV v d t≤1000:=by
 by_cases hb:v<1∨7<v∨(d && t)=true
 ·have:tkV v d t=0:=if_pos hb
  omega
 ·have hv:1≤v∧v≤7:=by omega
  have hdt:(d && t)=false:=by cases h:(d && t) with|false=>rfl|true=>exact absurd (.inr (.inr h)) hb
  have h0:=tkV_pos v d t hv hdt
  obtain ⟨n,rfl⟩:∃ n:Nat,v=n:=⟨v.toNat,by omega⟩
  have h1:=List.all_eq_true.1 tkAll2 n (by rw [List.mem_range'_1];omega)
  have h2:=List.all_eq_true.1 h1 (d,t) (by cases d<;>cases t<;>simp_all)
  have h3:=of_decide_eq_true h2
  exact ⟨by omega,h3⟩
theorem frc_le:∀ (t:Int) (l:List Ev),0≤t∧t≤1000→0≤frc t l∧frc t l≤1000
 | t,[],h=>h
 | t,e::r,h=>by
  unfold frc
  exact frc_le _ r (by split<;>first|exact tkV_le _ _ _|exact h)
def onsAt (evs:List Ev):Nat→Int
 | 0=>0
 | k+1=>onsAt evs k+frc 0 (evs.take (k+1))
theorem onsAt_le (evs:List Ev):∀ k,0≤onsAt evs k∧onsAt evs k≤1000*k
 | 0=>⟨Int.le_refl 0,Int.le_refl 0⟩
 | k+1=>by have h:=onsAt_le evs k;have h2:=frc_le 0 (evs.take (k+1)) (by decide);unfold onsAt;omega
def onsL (evs:List Ev) (k:Nat):List Int:=(List.range (k+1)).map (onsAt evs)
theorem onsL_succ (evs:List Ev) (k:Nat):onsL evs (k+1)=onsL evs k++[onsAt evs (k+1)]:=by simp [onsL,List.range_succ]
theorem onsL_length (evs:List Ev) (k:Nat):(onsL evs k).length=k+1:=by simp [onsL]
theorem Tryz.infoInt:(Tryz.prog.info? 3).map (fun i=>(i.zero,i.size,i.bytes))=some (some (.int .i64 0),1,8):=by kernel_rfl
theorem pOnsets_ok (M:PM) (p:Pce) (w:World) (hP:PcAt w w.heap.size M p) (hO:PcOk p) (h0:pceE p=0):Calls Tryz.prog 111 #[pcValue M p] w fun e w' =>
  ∃ v,e=.returned (.tuple #[v,.int .i64 0])∧w'.ownsRow w.heap.size 3 1 v (p.evs.length+1) ((onsL p.evs p.evs.length).map fun x=>.int .i64 x)∧Below w.heap.size w w':=by
 have hC:=fun (w':World) (hb:Below w.heap.size w w')=>pCheck_any M p w' (hP.after hb) hO
 rw [h0] at hC
 have hn3:=hO.n3
 have hT:=fun w'=>timed_any M p w'
 obtain ⟨A1,A2,A3,c1,c2,c3⟩:=M
 obtain ⟨n1,hn1⟩:∃ n,p.cs.length=n:=⟨_,rfl⟩
 obtain ⟨n2,hn2⟩:∃ n,p.st.length=n:=⟨_,rfl⟩
 obtain ⟨n3,hnn⟩:∃ n,p.evs.length=n:=⟨_,rfl⟩
 unfold pcValue at *
 simp only at *
 rw [hn1,hn2,hnn] at hC hT
 rw [hnn] at hn3
 rw [hn1,hn2,hnn]
 have HC:=Lib.hid hC
 have HT:=Lib.hid hT
 have HP:=Lib.hid hP
 have HN:=Lib.hid hnn
 obtain ⟨i0,hi,hz0,hz1,hz2⟩:=info_parts Tryz.infoInt
 clear hC hT hP hnn hn1 hn2 hO h0
 refine (callsIn_wide (n:=4)).1 ?_
 refine callsIn_of_wp_marks Tryz.func111 rfl trivial ?_ rfl
 simp only [Tryz.ntmps111,List.size_toArray,List.length_cons,List.length_nil,Nat.reduceAdd,Nat.reduceSub,Array.replicate_succ,Array.replicate_zero,List.push_toArray,List.append_toArray,List.nil_append,List.cons_append]
 gi_wp2_with (first
  | (refine ⟨trivial,?_⟩;gi_at_call 52;refine (callsIn_wide.2 (HC.out _ (by repeat (first|exact Below.refl _ _|assumption|refine bel_drewN ?_ _|refine Below.drew ?_|refine bel_alloc ?_ _|refine Below.setCell ?_ (by first|omega|(simp;done)|(simp;omega)) _|refine bel_step ?_ (by assumption))))).mono ?_;rintro e' w1 ⟨rfl,hb1⟩;have k1:=(Blk.new _ _ _).after hb1;have x0:w1.cell? ⟨w.heap.size,0,none⟩=some (.slice A1 n1 c1):=k1.cell 0;have x1:w1.cell? ⟨w.heap.size,1,none⟩=some (.slice A2 n2 c2):=k1.cell 1;have x2:w1.cell? ⟨w.heap.size,2,none⟩=some (.slice A3 n3 c3):=k1.cell 2;have l1:w.heap.size < w1.heap.size:=k1.lt;have K1:=Lib.hid k1;clear k1)
  | (refine ⟨trivial,?_⟩;gi_at_call 173;refine (callsIn_wide.2 (HT.out _)).mono ?_;rintro e' w2 ⟨rfl,rfl⟩))
 have hB0:Below w.heap.size w w1:=((Below.refl _ w).alloc (Nat.le_refl _) _).trans (hb1.mono (by simp))
 have hB3:Below w.heap.size w (((w1.alloc (Obj.cells #[Value.int IntKind.i64 0] 3)).alloc (Obj.cells #[Value.slice (some { block:=w1.heap.size,off:=0 }) 1 1] 23)).alloc (Obj.cells #[Value.slice A1 n1 c1,Value.slice A2 n2 c2,Value.slice A3 n3 c3] 28)):=((hB0.alloc (by omega) _).alloc (by simp;omega) _).alloc (by simp;omega) _
 have kb:Blk (((w1.alloc (Obj.cells #[Value.int IntKind.i64 0] 3)).alloc (Obj.cells #[Value.slice (some { block:=w1.heap.size,off:=0 }) 1 1] 23)).alloc (Obj.cells #[Value.slice A1 n1 c1,Value.slice A2 n2 c2,Value.slice A3 n3 c3] 28)) (w1.heap.size+1+1) 28 #[Value.slice A1 n1 c1,Value.slice A2 n2 c2,Value.slice A3 n3 c3]:=by
  have:=Blk.new ((w1.alloc (Obj.cells #[Value.int IntKind.i64 0] 3)).alloc (Obj.cells #[Value.slice (some { block:=w1.heap.size,off:=0 }) 1 1] 23)) 28 #[Value.slice A1 n1 c1,Value.slice A2 n2 c2,Value.slice A3 n3 c3]
  rwa [World.size_alloc,World.size_alloc] at this
 refine wp_range (n:=4) (gf:=212) (lb:=#[Value.pointer (some ⟨w1.heap.size+1+1,0,none⟩)]) rfl (enters_of Tryz.func212 (by kernel_rfl) rfl)
  (encs:=fun k=>#[.int .i64 (k:Int),.int .i64 (frc 0 (p.evs.take (k+1)))]) (len:=n3) (n₀:=w.heap.size) (by simp;omega)
  (fun l J W hW hJ hY h0=>timed1_in 3 (by omega) l (w1.heap.size+1+1) w.heap.size n3 c3 A3 p.evs HN.out hn3 _ J hJ hY W (by have:=hW.size;simp at this;omega)
   ((hW.cell (p:=⟨w1.heap.size+1+1,2,none⟩) (by simp)).trans (kb.cell 2))
   (HP.out.2.1.below (hB3.trans (hW.mono hB3.size))) h0)
  (fun _=>rfl)
  (fun k W=>(∃ v,Boxed W (w1.heap.size+1) 23 v∧W.ownsRow w.heap.size 3 1 v (k+1) ((onsL p.evs k).map fun x=>.int .i64 x)∧True)∧Below w.heap.size w W)
  (OwnFrom.and (Own.from (holdsRow_own w.heap.size (w1.heap.size+1) 23 3 1 (fun k=>k+1) (fun k=>(onsL p.evs k).map fun x=>Value.int .i64 x) (fun _ _=>True)) _) (ownFrom_below (Nat.le_refl _) (by simp;omega)))
  ⟨⟨.slice (some ⟨w1.heap.size,0,none⟩) 1 1,?_,?_,trivial⟩,hB3⟩
  (fun k=>{ tmps:=#[Value.agg #[Value.slice A1 n1 c1,Value.slice A2 n2 c2,Value.slice A3 n3 c3],
     Value.pointer (some { block:=w.heap.size,off:=0 }),Value.slice none 0 0,Value.int IntKind.i64 0,
     Value.int IntKind.i64 0,Value.pointer (some { block:=w1.heap.size+1,off:=0 }),.int .i64 (k:Int),.int .i64 (frc 0 (p.evs.take (k+1))),
     Value.agg #[Value.slice A1 n1 c1,Value.slice A2 n2 c2,Value.slice A3 n3 c3],Value.int IntKind.i64 0,
     Value.int IntKind.i64 0,Value.bool false,undef,Value.slice (some { block:=w1.heap.size,off:=0 }) 1 1,
     Value.agg #[Value.slice A1 n1 c1,Value.slice A2 n2 c2,Value.slice A3 n3 c3],
     Value.func (Fn.func 212) #[] #[Value.pointer (some { block:=w1.heap.size+1+1,off:=0 })],.int .i64 (k:Int),
     .int .i64 (frc 0 (p.evs.take (k+1))),undef,undef,undef,undef,undef,undef,undef,undef,undef,undef],defers:=[] }) ?assign ?body ?done
 ·have:=Boxed.new (w1.alloc (Obj.cells #[Value.int IntKind.i64 0] 3)) 23 (.slice (some ⟨w1.heap.size,0,none⟩) 1 1)
  rw [World.size_alloc] at this
  exact this.alloc _
 ·refine ((World.ownsRow.alloc ?_ _).alloc _)
  exact ⟨by simp [onsL],.inr ⟨w1.heap.size,1,#[.int .i64 0],rfl,by omega,World.alloc_heap_new _ _,Nat.le_refl _,by decide,rfl,by simp [onsL,onsAt]⟩⟩
 case assign =>
  intro l k W K hK
  gi_wp2
  exact hK
 case body =>
  rintro l k W ⟨⟨v,hv,hrow,_⟩,hB⟩ hlt
  obtain ⟨g,cap,rfl⟩:=ownsRow_succ hrow
  have hc:=hv.cell
  obtain ⟨T,hT⟩:∃ T,frc 0 (p.evs.take (k+1))=T:=⟨_,rfl⟩
  have hx:W.cell? ⟨g,k,none⟩=some (.int .i64 (onsAt p.evs k)):=by
   rw [hrow.cellAt k (by omega)]
   simp [onsL]
  have hbd:=onsAt_le p.evs k
  have hTb:=frc_le 0 (p.evs.take (k+1)) ⟨by decide,by decide⟩
  rw [hT] at hTb
  rw [hT]
  gi_wp2
  have hwr:IntKind.i64.wrap (onsAt p.evs k+T)=onsAt p.evs k+T:=Go.IntWalk.i64_in _ ⟨by omega,by omega⟩
  have hk1:((k:Int) < (k:Int)+1):=by omega
  have hfo:Tryz.prog.follows .mixedOrders=true:=by kernel_rfl
  obtain ⟨v',w4,hrun,r1,r2,r3⟩:=run_append_own (P:=Tryz.prog) ((W.alloc (Obj.cells #[.int .i64 (onsAt p.evs k+T)] 3)).drew) w.heap.size 23 23 3 i0 (.int .i64 0) 1 8 Tryz.underlying23 hi hz0 hz1 hz2 rfl (by decide) _ (k+1) _ (show (W.alloc _).ownsRow _ _ _ _ _ _ from hrow.alloc _) ⟨W.heap.size,0,none⟩ 1 1 [.int .i64 (onsAt p.evs k+T)] rfl (cell_one_new W _ _) (by simp [Value.oneCell']) (by unfold maxLen;omega) (by omega) (by have:=hB.size;simp;omega)
  obtain ⟨g',cap',rfl⟩:=ownsRow_succ r1
  obtain ⟨hv1,hv2,hr2,hk2,hb2⟩:=hv.appended (tmp:=Obj.cells #[.int .i64 (onsAt p.evs k+T)] 3) (by decide) hrow hB.size (by omega) r1 ⟨r2.os,r2.tape,r2.output,r2.size,r2.block⟩
  have hc1:=hv1.cell
  have hlW:=hv.lt
  have hf1:=hv1.frozen
  gi_region_with_o (fail)
  all_goals exact ⟨hk2,hb2,⟨_,hv2,by rw [onsL_succ];simpa [onsAt,hT] using hr2,trivial⟩,hB.trans hb2⟩
 case done =>
  rintro D W hD ⟨⟨v,hv,hrow,_⟩,hB⟩ hK
  have hc:=hv.cell
  gi_wp2
  refine ⟨by simp,.inl ⟨_,_,rfl,run_takeDeferred hK,?_⟩⟩
  refine ⟨_,results_tmp2 rfl _ _ _,v,rfl,?_,hB.trans (belowK_b (w:=w) (Nat.le_refl _) W D _ _ (by simp at hD;omega) hK rfl rfl)⟩
  exact ownsRow_putObj hrow _ hK rfl
end Go.Proofs.YtgelfflighgajaaGreatDoor
namespace Go.Proofs.YtgelfflighgajaaGreatDoor
open Go.RowKit
set_option maxHeartbeats 8000000
set_option maxRecDepth 100000
theorem pOnsets_bad (M:PM) (p:Pce) (w:World) (hP:PcAt w w.heap.size M p) (hO:PcOk p) (h0:pceE p≠0):Calls Tryz.prog 111 #[pcValue M p] w (Ret (.tuple #[.slice none 0 0,.int .i64 (pceE p)]) w):=by
 have hC:=fun (w':World) (hb:Below w.heap.size w w')=>pCheck_any M p w' (hP.after hb) hO
 obtain ⟨E,hE⟩:∃ E,pceE p=E:=⟨_,rfl⟩
 rw [hE] at hC h0 ⊢
 obtain ⟨A1,A2,A3,c1,c2,c3⟩:=M
 unfold pcValue at *
 simp only at *
 have HC:=Lib.hid hC
 have e1:(E == 0)=false:=by simpa using h0
 have e2:(E != 0)=true:=by simpa using h0
 clear hC hP hO h0 hE
 go_enter Tryz.func111,Tryz.ntmps111
 go_wp2_with (go_at_call 52;refine (HC.out _ (by repeat (first|exact Below.refl _ _|assumption|refine bel_drewN ?_ _|refine Below.drew ?_|refine bel_alloc ?_ _|refine Below.setCell ?_ (by first|omega|(simp;done)|(simp;omega)) _|refine bel_step ?_ (by assumption)))).mono ?_;rintro e' w1 ⟨rfl,hb1⟩;have k1:=(Blk.new _ _ _).after hb1;have l1:w.heap.size < w1.heap.size:=k1.lt;clear k1)
 go_ret2
 exact Ret.mk' rfl (by repeat (first|exact Below.refl _ _|assumption|refine bel_drewN ?_ _|refine Below.drew ?_|refine bel_alloc ?_ _|refine Below.setCell ?_ (by first|omega|(simp;done)|(simp;omega)) _|refine bel_step ?_ (by assumption)))
theorem pMeasures_bad (M:PM) (p:Pce) (w:World) (hP:PcAt w w.heap.size M p) (hO:PcOk p) (h0:pceE p≠0):Calls Tryz.prog 112 #[pcValue M p] w (Ret (.tuple #[.slice none 0 0,.int .i64 (pceE p)]) w):=by
 have hC:=fun (w':World) (hb:Below w.heap.size w w')=>pCheck_any M p w' (hP.after hb) hO
 obtain ⟨E,hE⟩:∃ E,pceE p=E:=⟨_,rfl⟩
 rw [hE] at hC h0 ⊢
 obtain ⟨A1,A2,A3,c1,c2,c3⟩:=M
 unfold pcValue at *
 simp only at *
 have HC:=Lib.hid hC
 have e1:(E == 0)=false:=by simpa using h0
 have e2:(E != 0)=true:=by simpa using h0
 clear hC hP hO h0 hE
 go_enter Tryz.func112,Tryz.ntmps112
 go_wp2_with (go_at_call 52;refine (HC.out _ (by repeat (first|exact Below.refl _ _|assumption|refine bel_drewN ?_ _|refine Below.drew ?_|refine bel_alloc ?_ _|refine Below.setCell ?_ (by first|omega|(simp;done)|(simp;omega)) _|refine bel_step ?_ (by assumption)))).mono ?_;rintro e' w1 ⟨rfl,hb1⟩;have k1:=(Blk.new _ _ _).after hb1;have l1:w.heap.size < w1.heap.size:=k1.lt;clear k1)
 go_ret2
 exact Ret.mk' rfl (by repeat (first|exact Below.refl _ _|assumption|refine bel_drewN ?_ _|refine Below.drew ?_|refine bel_alloc ?_ _|refine Below.setCell ?_ (by first|omega|(simp;done)|(simp;omega)) _|refine bel_step ?_ (by assumption)))
end Go.Proofs.YtgelfflighgajaaGreatDoor
namespace Go.Proofs.YtgelfflighgajaaGreatDoor
open Go.RowKit
theorem rd_of_ints {w:World} {base e n cap B:Nat} {g:Nat} {l:List Int} (h:w.ownsRow base e 1 (.slice (some ⟨g,0,none⟩) n cap) n (l.map fun x=>.int .i64 x)) (hn:l.length=n) (hg:g<B):Rd w B 1 (some ⟨g,0,none⟩) (l.map intCell):=by
 intro _
 refine ⟨⟨g,0,none⟩,rfl,hg,fun k r hr j y hy=>?_⟩
 rw [List.getElem?_map] at hr
 cases hk:l[k]? with
 | none=>simp [hk] at hr
 | some x =>
  simp only [hk,Option.map_some,Option.some.injEq] at hr
  subst hr
  have hkl:=(List.getElem?_eq_some_iff.1 hk).1
  match j with
  | 0 =>
   cases hy
   have:=h.cellAt k (by omega)
   rw [List.getElem?_map,hk] at this
   have e:(⟨g,0,none⟩:Addr).add (k*1+0)=⟨g,k,none⟩:=by
    by_cases hz:k=0
    ·subst hz;rfl
    ·simp [Addr.add,hz]
   rw [e]
   simpa using this
  | j+1=>simp [intCell] at hy
theorem pOnsets_FS (p:Pce) (hO:PcOk p):Ctr Tryz.prog 111 [ePce p] (.tu [.ls 1 (if pceE p=0 then (onsL p.evs p.evs.length).map eInt else []),.sc (.int .i64 (pceE p))]):=by
 intro w F vs hF hR
 match vs,hR.1 with
 | [v],_ =>
  obtain ⟨M,rfl,hM⟩:=pc_of_rp hF (hR.2 0 _ v rfl rfl)
  by_cases h0:pceE p=0
  ·rw [if_pos h0,h0]
   refine (pOnsets_ok M p w hM hO h0).mono fun e w' ⟨v,he,hrow,hb⟩=>?_
   obtain ⟨g,cap,rfl⟩:∃ g cap,v=.slice (some ⟨g,0,none⟩) (p.evs.length+1) cap:=by
    rcases hrow.2 with⟨_,h⟩|⟨g,cap,cur,e,_⟩
    ·omega
    ·exact ⟨g,cap,e⟩
   have hlt:=hrow.lt g rfl
   have hcap:p.evs.length+1≤cap:=by
    rcases hrow.2 with⟨h,_⟩|⟨g',cap',cur,e,_,_,h,_⟩
    ·cases h
    ·cases e;exact h
   have hlen:(onsL p.evs p.evs.length).length=p.evs.length+1:=onsL_length _ _
   refine ⟨_,newF F w w',he,hb,newF_le hF,newF_fw hF hb,newF_new,.tu _ _ rfl fun i av u a b=>?_⟩
   match i with
   | 0 =>
    cases a;cases b
    have:=rp_of_rd (F:=F) (w:=w) (rd_of_ints (B:=w'.heap.size) hrow hlen hlt.2) (fun ad e=>by cases e;exact hlt.1) (c:=cap) (by omega) (e:=eInt) (fun _=>rfl) eInt_of
    rw [hlen] at this
    exact this
   | 1=>cases a;cases b;exact .sc _
   | i+2=>simp at a
  ·rw [if_neg h0]
   refine (pOnsets_bad M p w hM hO h0).mono fun e w' ⟨he,hb⟩=>?_
   refine ⟨_,newF F w w',he,hb,newF_le hF,newF_fw hF hb,newF_new,.tu _ _ rfl fun i av u a b=>?_⟩
   match i with
   | 0=>cases a;cases b;exact .ls 1 [] none 0 ⟨0,0,none⟩ (fun _ _=>undef) (by simp) (by simp) (by simp) (by simp) (by simp)
   | 1=>cases a;cases b;exact .sc _
   | i+2=>simp at a
end Go.Proofs.YtgelfflighgajaaGreatDoor
namespace Go.Proofs.YtgelfflighgajaaGreatDoor
open Go.RowKit
set_option maxHeartbeats 4000000
set_option maxRecDepth 100000
def onsR (p:Pce):List (List AV):=if pceE p=0 then (onsL p.evs p.evs.length).map eInt else []
def eSnd (p:Pce):AV:=.ag [.ls 3 (p.cs.map eCrs),.ls 1 (p.st.map eInt),.ls 6 (p.evs.map eEv),.ls 1 (onsR p)]
theorem listen_FS (p:Pce) (hO:PcOk p):Ctr Tryz.prog 208 [ePce p] (.tu [eSnd p,.sc (.int .i64 (pceE p))]):=by
 refine Ctr.intro Tryz.func208 rfl Tryz.ntmps208 (Nat.le_of_ble_eq_true rfl) (bd_all rfl) fun w0 F0=>?_;dsimp only [St.init,number,Nat.reduceAdd]
 repeat refine W.go rfl ?_
 refine (?_:WL _ _ _ _ _ _)
 dsimp only [St.put,Nat.reduceAdd]
 refine WL.vl rfl (WV.call rfl (callF Tryz.func111 rfl rfl) rfl rfl (pOnsets_FS p hO)) ?_
 repeat (first|refine W.go rfl ?_|refine WL.ev rfl ?_)
 refine (?_:W _ _ _ _ _)
 dsimp only [St.put,Nat.reduceAdd]
 exact W.ret (finN rfl rfl rfl rfl)
end Go.Proofs.YtgelfflighgajaaGreatDoor
namespace Go.Proofs.YtgelfflighgajaaGreatDoor
open Go.RowKit
def bumpM (t:Int):List (Int×Int×Int)→List (Int×Int×Int)
 | []=>[]
 | [x]=>[(x.1,x.2.1+1,x.2.2+t)]
 | x::y::r=>x::bumpM t (y::r)
theorem bumpM_snoc (t:Int) (x:Int×Int×Int):∀ l,bumpM t (l++[x])=l++[(x.1,x.2.1+1,x.2.2+t)]
 | []=>rfl
 | [y]=>rfl
 | y::z::r=>by
  have:=bumpM_snoc t x (z::r)
  simp only [List.cons_append] at this ⊢
  rw [bumpM,this]
def newM (evs:List Ev) (k:Nat):Bool:=k == 0 || ((evs[k]?).map (·.bar)).getD false
def mea (evs:List Ev):Nat→List (Int×Int×Int)
 | 0=>[]
 | k+1=>bumpM (frc 0 (evs.take (k+1))) (if newM evs k then mea evs k++[((k:Int),0,0)] else mea evs k)
def mCell (x:Int×Int×Int):List Value:=[.int .i64 x.1,.int .i64 x.2.1,.int .i64 x.2.2]
def mCells (l:List (Int×Int×Int)):List Value:=l.flatMap mCell
theorem mCells_length (l:List (Int×Int×Int)):(mCells l).length=l.length*3:=by
 induction l with
 | nil=>rfl
 | cons x r ih=>simp [mCells,mCell] at ih ⊢;omega
theorem mCells_snoc (l:List (Int×Int×Int)) (x:Int×Int×Int):mCells (l++[x])=mCells l++mCell x:=by simp [mCells]
theorem mCells_set1 (l:List (Int×Int×Int)) (x:Int×Int×Int) (u:Int):(mCells (l++[x])).set (l.length*3+1) (.int .i64 u)=mCells (l++[(x.1,u,x.2.2)]):=by
 rw [mCells_snoc,mCells_snoc,List.set_append_right _ _ (by rw [mCells_length];omega),mCells_length]
 rw [show l.length*3+1-l.length*3=1 by omega];rfl
theorem mCells_set2 (l:List (Int×Int×Int)) (x:Int×Int×Int) (u:Int):(mCells (l++[x])).set (l.length*3+2) (.int .i64 u)=mCells (l++[(x.1,x.2.1,u)]):=by
 rw [mCells_snoc,mCells_snoc,List.set_append_right _ _ (by rw [mCells_length];omega),mCells_length]
 rw [show l.length*3+2-l.length*3=2 by omega];rfl
theorem mCells_at1 (l:List (Int×Int×Int)) (x:Int×Int×Int):(mCells (l++[x]))[l.length*3+1]?=some (.int .i64 x.2.1):=by
 rw [mCells_snoc,List.getElem?_append_right (by rw [mCells_length];omega),mCells_length,show l.length*3+1-l.length*3=1 by omega];rfl
theorem mCells_at2 (l:List (Int×Int×Int)) (x:Int×Int×Int):(mCells (l++[x]))[l.length*3+2]?=some (.int .i64 x.2.2):=by
 rw [mCells_snoc,List.getElem?_append_right (by rw [mCells_length];omega),mCells_length,show l.length*3+2-l.length*3=2 by omega];rfl
theorem bumpM_length (t:Int):∀ l,(bumpM t l).length=l.length
 | []=>rfl
 | [y]=>rfl
 | y::z::r=>by
  have:=bumpM_length t (z::r)
  simp only [bumpM,List.length_cons] at this ⊢
  omega
theorem mea_ne (evs:List Ev):∀ k,(if newM evs k then mea evs k++[((k:Int),0,0)] else mea evs k)≠[]
 | 0=>by simp [newM]
 | k+1=>by
  split
  ·simp
  ·intro h
   have h1:(mea evs (k+1)).length=0:=by rw [h];rfl
   unfold mea at h1
   rw [bumpM_length] at h1
   exact mea_ne evs k (List.length_eq_zero_iff.1 h1)
theorem mea_length (evs:List Ev):∀ k,(mea evs k).length≤k
 | 0=>Nat.le_refl _
 | k+1=>by
  have:=mea_length evs k
  unfold mea
  rw [bumpM_length]
  split
  ·simp;omega
  ·omega
theorem bumpM_mem {t:Int}:∀ {l:List (Int×Int×Int)} {x:Int×Int×Int},x∈bumpM t l→x∈l∨∃ y∈l,x=(y.1,y.2.1+1,y.2.2+t)
 | [],x,h=>by cases h
 | [y],x,h=>by
  rw [show bumpM t [y]=[(y.1,y.2.1+1,y.2.2+t)] from rfl,List.mem_singleton] at h
  exact .inr ⟨y,by simp,h⟩
 | y::z::r,x,h=>by
  rw [show bumpM t (y::z::r)=y::bumpM t (z::r) from rfl] at h
  rcases List.mem_cons.1 h with h|h
  ·exact .inl (by simp [h])
  ·rcases bumpM_mem h with h|⟨w,h,e⟩
   ·exact .inl (List.mem_cons_of_mem _ h)
   ·exact .inr ⟨w,List.mem_cons_of_mem _ h,e⟩
theorem mea_bd (evs:List Ev):∀ k x,x∈mea evs k→(0≤x.1∧x.1≤k)∧(0≤x.2.1∧x.2.1≤k)∧(0≤x.2.2∧x.2.2≤1000*k):=by
 intro k
 induction k with
 | zero=>intro x hx;cases hx
 | succ k ih =>
  intro x hx
  have hT:=frc_le 0 (evs.take (k+1)) ⟨by decide,by decide⟩
  have h1:∀ y,y∈(if newM evs k then mea evs k++[((k:Int),0,0)] else mea evs k)→(0≤y.1∧y.1≤k)∧(0≤y.2.1∧y.2.1≤k)∧(0≤y.2.2∧y.2.2≤1000*k):=fun y hy=>by
   split at hy
   ·rcases List.mem_append.1 hy with hy|hy
    ·exact ih y hy
    ·rw [List.mem_singleton] at hy;subst hy;simp;omega
   ·exact ih y hy
  unfold mea at hx
  rcases bumpM_mem hx with hx|⟨y,hy,rfl⟩
  ·have:=h1 x hx;omega
  ·have:=h1 y hy;simp only;omega
end Go.Proofs.YtgelfflighgajaaGreatDoor
namespace Go.Proofs.YtgelfflighgajaaGreatDoor
open Go.RowKit
set_option maxRecDepth 100000
set_option maxHeartbeats 4000000
theorem pcOk_of2 {p:Pce} (h:bigB p=false):PcOk p:=by
 unfold bigB at h
 simp only [Bool.or_eq_false_iff,decide_eq_false_iff_not,List.any_eq_false] at h
 obtain ⟨h1,h2,h3,h4⟩:=h
 refine ⟨by omega,by omega,by omega,fun k hk=>?_⟩
 have:=h4 _ (List.getElem_mem hk)
 simp at this
 exact this
theorem big_FS (p:Pce):Ctr Tryz.prog 49 [ePce p] (.sc (.bool (bigB p))) :=
 Ctr.of_pc (pre:=[]) (post:=[]) rfl rfl (fun _=>.sc _) fun w M hM=>big_any M p w hM
end Go.Proofs.YtgelfflighgajaaGreatDoor
