/- piece.Onsets. -/
import Derived.RangeFuncNested
import Derived.RangeFuncBound
import Derived.Shelf.RegionOpen
import Derived.OwnWalkIn
import Derived.LoopNIn
import Derived.LoopIn
import Derived.Test.YthehkchjdkdbiaaGreatDoorPChKq
set_option maxHeartbeats 8000000
set_option maxRecDepth 100000
set_option linter.unusedVariables false
set_option linter.unusedSimpArgs false
namespace Go.Proofs.YthehkchjdkdbiaaGreatDoor
theorem aq7 {p:Prop}(h:p:=by
 refine hR.mono ?_
 rintro e W3 ⟨rfl,hJ3,hk3⟩
 gi_wp2
 go_roundw
 case rel=>exact ⟨k+1,by omega,by go_num,by rw [HFR.out],hJ3,(HX.out.trans (HBB.out.mono (by have:=HX.out.size;omega))).trans hk3⟩
 case measure=>simp [intOf];omega):p:=h
section
open Go.RowKit Go.Shelf
attribute [local go_sem]Oper.semAt_some
def JD:Int→List Ev→Int
 | t,[]=>t
 | t,e::r=>JD (if 0<Dl e.val e.dot e.three then Dl e.val e.dot e.three else t) r
theorem UQ (e:Ev):∀ (t:Int)(l:List Ev),JD t (l++[e])=if 0<Dl e.val e.dot e.three then Dl e.val e.dot e.three else JD t l
 | t,[]=>rfl
 | t,x::l=>UQ e _ l
theorem UU {evs:List Ev} {k:Nat} (h:k<evs.length)(t:Int):JD t (evs.take (k+1))=if 0<Dl evs[k].val evs[k].dot evs[k].three then Dl evs[k].val evs[k].dot evs[k].three else JD t (evs.take k):=by
 rw [mJ h,UQ]
theorem yV {a b:World} (h:Below a.heap.size a b)(row:Option Nat):a.grownBy b row:=⟨h.os,h.tape,h.output,h.size,fun k hk _=>h.block k hk⟩
theorem afA (n:Nat) (hn:1≤n) (l Bp n₀ len c:Nat) (A:Option Addr) (evs:List Ev) (hlen:evs.length=len) (hO:len≤420) (B0:Nat) (J:Nat→World→Prop) (hJ:AbidesFrom B0 J)
  (hY:∀ k W,J k W→k < len→YieldAt Fence.wide (n - 1) Tryz.prog l #[.int .i64 (k:Int),.int .i64 (JD 0 (evs.take (k+1)))] W fun e W'=>e=.returned (.bool true)∧J (k+1) W'∧Below n₀ W W')
  (W:World) (hn₀:n₀≤W.heap.size) (hc:W.cell? ⟨Bp,2,none⟩=some (.slice A len c)) (hE:uz W n₀ A evs) (h0:J 0 W) :
  CallsIn Fence.wide n Tryz.prog 203 #[.func (.yield l) #[] #[],.pointer (some ⟨Bp,0,none⟩)] W fun e W'=>(∃ v,e=.returned v)∧J len W':=by
 have HE:=Lib.hid hE
 have HJ:=Lib.hid hJ
 have HL:=Lib.hid hlen
 clear hE hlen
 refine callsIn_of_wp Tryz.func203 rfl trivial ?_ rfl
 simp only [Tryz.ntmps203,Qj,iw,o9,Nat.reduceAdd,Nat.reduceSub,Array.replicate_succ,Array.replicate_zero,List.push_toArray,List.append_toArray,ug,zK]
 gi_wp2
 gi_loopw [3,10] (fun t i wr=>∃ k:Nat,k≤len∧i=.int .i64 k∧t=.int .i64 (JD 0 (evs.take k))∧J k wr∧Below n₀ W wr)
  (fun _ i _=>len - (intOf i).toNat)
 case atStart=>exact ⟨0,gU _,rfl,rfl,h0,Below.refl _ _⟩
 case round =>
  obtain ⟨k,hk,rfl,rfl,hJs,hnx⟩:=hrel
  have HX:=Lib.hid hnx
  by_cases hlt:k < len
  ·have hk2:k < evs.length:=by have:=HL.out;omega
   obtain ⟨ad,S,c',hA,hb,e0,e1,e2,e3,e4,e5,hS⟩:=(HE.out.below hnx).ev hk2
   subst hA
   have hfr:=UU hk2 0
   have KT:=Lib.hid (fun w=>Qh evs[k].val evs[k].dot evs[k].three w)
   obtain ⟨T,hT⟩:∃ T,Dl evs[k].val evs[k].dot evs[k].three=T:=⟨_,rfl⟩
   rw [hT] at hfr KT
   obtain ⟨e,he⟩:∃ e,evs[k]=e:=⟨_,rfl⟩
   rw [he] at e0 e1 e2 e3 e4 e5 KT
   obtain ⟨m,hm⟩:∃ m,e.stops.length=m:=⟨_,rfl⟩
   rw [hm] at e5
   clear hS hT
   have HFR:=Lib.hid hfr
   have HY:=hY k
   by_cases hT0:0 < T
   ·rw [if_pos hT0] at HFR
    gi_wp2_with (refine ⟨trivial,?_⟩;gi_at_call 172;refine (callsIn_wide.2 (KT.out _)).mono ?_;rintro e' w1 ⟨rfl,hb1⟩;have hbb:Below wr.heap.size wr w1:=((Below.refl _ wr).alloc (bJ _) _).trans (hb1.mono (by simp));have HBB:=Lib.hid hbb;obtain ⟨fn,tmps,assign,body,hy,hR⟩:=HY w1 (HJ.out _ wr w1 none hJs (yV hbb _) (fun r h=>by cases h)) hlt;clear hbb;rw [HFR.out] at hy)
    exact aq7
   ·rw [if_neg hT0] at HFR
    obtain ⟨T0,avn⟩:∃ T0,JD 0 (evs.take k)=T0:=⟨_,rfl⟩
    rw [avn] at HFR
    rw [avn]
    gi_wp2_with (refine ⟨trivial,?_⟩;gi_at_call 172;refine (callsIn_wide.2 (KT.out _)).mono ?_;rintro e' w1 ⟨rfl,hb1⟩;have hbb:Below wr.heap.size wr w1:=((Below.refl _ wr).alloc (bJ _) _).trans (hb1.mono (by simp));have HBB:=Lib.hid hbb;obtain ⟨fn,tmps,assign,body,hy,hR⟩:=HY w1 (HJ.out _ wr w1 none hJs (yV hbb _) (fun r h=>by cases h)) hlt;clear hbb;rw [HFR.out] at hy)
    exact aq7
  ·obtain rfl:k=len:=by omega
   gi_wp2
   go_end0
   exact ⟨⟨_,rfl⟩,hJs⟩
theorem afB (M:PM) (p:aS) (w:World):Calls Tryz.prog 140 #[iD M p] w fun e w'=>e=.returned (.func (.func 203) #[] #[.pointer (some ⟨w.heap.size,0,none⟩)]) ∧
  w'=w.alloc (.cells #[.slice M.A1 p.cs.length M.c1,.slice M.A2 p.st.length M.c2,.slice M.A3 p.evs.length M.c3] 30):=by
 unfold iD
 go_enter Tryz.func140,Tryz.ntmps140
 go_wp2
 go_ret
 exact ⟨rfl,rfl⟩
def aoF (n₀:Nat)(I:Nat→World→Prop)(k:Nat)(W:World):Exit→Act→World→Prop
 | .normal,_,W'=>KeepsOthers W W'∧Below n₀ W W'∧I (k+1) W'
 | _,_,_=>False
theorem ajl {P:Program} {n:Nat} {g:Operand} {ps:Array Tmp} {assign body:Code} {Q:Exit→Act→World→Prop} {a:Act} {w:World} {gf:Nat} {lb:Array Value}
  (hg:a.eval g=.func (.func gf) #[] lb) (eg:∀ args w,(callFunc gf args).run P w=.ok (.enter gf args) w) {encs:Nat→Array Value} {len n₀:Nat} (hn₀:n₀≤w.heap.size)
  (hit:∀ (l:Nat) (J:Nat→World→Prop) (W:World),Below w.heap.size w W→AbidesFrom W.heap.size J →
   (∀ k W1,J k W1→k < len→YieldAt Fence.wide (n - 1 - 1) P l (encs k) W1 fun e W'=>e=.returned (.bool true)∧J (k+1) W'∧Below n₀ W1 W')→J 0 W →
   CallsIn Fence.wide (n - 1) P gf (#[.func (.yield l) #[] #[]]++lb) W fun e W'=>(∃ v,e=.returned v)∧J len W')
  (hps:∀ k,(encs k).size=ps.size) (I:Nat→World→Prop) (hI:OwnFrom w.heap.size I) (h0:I 0 w) (a₁:Nat→Act)
  (hassign:∀ (l k:Nat) (W:World) (K:Act→World→Prop),K (a₁ k) W →
   assign.wpIn (Fence.wide.inRound l) (n - 1 - 1) P (Exit.then K (fun _ _ _=>False)) { tmps:=(ps.zip (encs k)).foldl (fun t (p,v)=>t.setIfInBounds p v) a.tmps,defers:=[] } W)
  (hbody:∀ (l k:Nat) (W:World),I k W→k < len→body.wpIn (Fence.wide.inRound l) (n - 1 - 1) P (aoF n₀ I k W) (a₁ k) W)
  (hdone:∀ (D:Nat) (W:World),w.heap.size≤D→I len W→W.heap[D]?=some (.deferred (some []))→Q .normal { a with defers:={ target:=.collected D,args:=#[] }::a.defers } W) :
  (Code.rangeFunc g ps assign body).wpIn Fence.wide n P Q a w:=by
 refine wpIn_rangeFunc fun fn hfn=>?_
 obtain ⟨rec,hrec⟩:∃ rec:LoopState→Option Code→Loop,rec=fun st pe=>{ state:=st,pending:=pe,fn,tmps:=a.tmps,params:=ps,assign,body,defers:=w.heap.size }:=⟨_,rfl⟩
 obtain ⟨W1,hW1⟩:∃ W1,(w.alloc (.deferred (some []))).alloc (.loop (rec .ready none))=W1:=⟨_,rfl⟩
 have hL:W1.heap[w.heap.size+1]?=some (.loop (rec .ready none)):=by
  have:=World.alloc_heap_new (w.alloc (.deferred (some []))) (.loop (rec .ready none))
  rwa [World.size_alloc,hW1] at this
 have hD:W1.heap[w.heap.size]?=some (.deferred (some [])):=by
  rw [← hW1];exact (Below.heap_alloc _ _ _ (by simp)).trans (World.alloc_heap_new w _)
 have hB1:Below w.heap.size w W1:=by rw [← hW1];exact ((Below.refl _ w).alloc (bJ _) _).alloc (by simp) _
 have hS1:w.heap.size≤W1.heap.size:=hB1.size
 refine ⟨w.heap.size+1,[{ target:=.collected w.heap.size,args:=#[] }],W1,{ target:=.fn (.func gf) lb,args:=#[.func (.yield (w.heap.size+1)) #[] #[]] },W1,gf,
  #[.func (.yield (w.heap.size+1)) #[] #[]]++lb,W1,?_,?_,fun _ _=>trivial,?_,fun h=>?_,?_⟩
 ·rw [← hW1,hrec];exact run_enterLoop_outer _ _ _ _ _
 ·simp only [resolve,hg]
  simp [go_sem]
 ·simp [invoke,go_sem,eg]
 ·simp [Fence.wide] at h
 ·have turn:∀ {A B:World} {row:Option Nat} {k:Nat} {o:Obj},A.grownBy B row→(∀ r,row=some r→W1.heap.size≤r∧∃ o:Obj,A.heap[r]?=some o∧o.isWalk=true)→A.heap[k]?=some o→o.isWalk=false→B.heap[k]?=some o :=
   fun hg' hr hk ho=>(grownBy_keeps hg' (fun r e=>(hr r e).2) hk ho).trans hk
  refine (hit (w.heap.size+1) (fun k W=>I k W∧W.heap[w.heap.size+1]?=some (.loop (rec .ready none))∧W.heap[w.heap.size]?=some (.deferred (some []))) W1 hB1
   (fun s A B row hs hg' hr=>⟨hI s A B row hs.1 hg' fun r e=>⟨jV hS1 (hr r e).1,(hr r e).2.imp fun o h=>⟨h.1,Obj.not_cells_of_walk h.2⟩⟩,turn hg' hr hs.2.1 rfl,turn hg' hr hs.2.2 rfl⟩)
   ?_ ⟨by rw [← hW1];exact hI.alloc _ (hI.alloc _ h0),hL,hD⟩).mono ?_
  ·rintro k W ⟨hi,hl,hd⟩ hk
   have hlt:w.heap.size+1 < W.heap.size:=(Array.getElem?_eq_some_iff.1 hl).1
   have hy:=run_yield (P:=P) (args:=encs k) hl (by rw [hrec];exact hps k)
   rw [hrec] at hy
   refine ⟨fn,_,assign,body,hy,roundIn_of_wpIn hfn (hassign _ k W _ ⟨_,run_beginRound hl (by rw [hrec]),?_⟩)⟩
   obtain ⟨W2,hW2⟩:∃ W2,W.putObj (w.heap.size+1) (.loop { rec .ready none with state:=.busy })=W2:=⟨_,rfl⟩
   have hl2:W2.heap[w.heap.size+1]?=some (.loop { rec .ready none with state:=.busy }):=by rw [← hW2];exact World.putObj_heap_same hlt
   have hd2:W2.heap[w.heap.size]?=some (.deferred (some [])):=by rw [← hW2];exact (World.putObj_heap_other (by omega)).trans hd
   have hb2:Below n₀ W W2:=by rw [← hW2];exact belowK_b hn₀ W _ _ _ (by omega) hl rfl rfl
   have hi2:I k W2:=by rw [← hW2];exact hI.putObj _ hi (by omega) hl rfl
   rw [hW2]
   refine wpIn_mono (hbody _ k W2 hi2 hk) ?_
   rintro e a3 W3 hp
   cases e with
   | normal =>
    obtain ⟨hk3,hb3,hi3⟩:=hp
    have hl3:=hk3.same _ _ hl2 rfl
    have hr:=run_endRound (P:=P) none hl3
    rw [hrec] at hr
    refine ⟨_,_,hr,rfl,⟨hI.putObj _ hi3 au hl3 rfl,?_,(World.putObj_heap_other au).trans (hk3.same _ _ hd2 rfl)⟩,(hb2.trans hb3).trans (belowK_b hn₀ W3 _ _ _ au hl3 rfl rfl)⟩
    rw [hrec]
    exact World.putObj_heap_same (Array.getElem?_eq_some_iff.1 hl3).1
   | ret=>exact hp.elim
   | exit id=>exact hp.elim
   | goto t=>exact hp.elim
   | panic ch=>exact hp.elim
   | outgrown=>exact hp.elim
  ·rintro e W2 ⟨⟨v,rfl⟩,hi,hl,hd⟩
   have hr:=run_endLoop (P:=P) hl (by rw [hrec];simp)
   rw [hrec] at hr
   exact ⟨none,_,hr,hdone _ _ (bJ _) (hI.putObj _ hi au hl rfl) ((World.putObj_heap_other au).trans hd)⟩
end
section
open Go.RowKit Go.Shelf
attribute [local go_sem]Oper.semAt_some
attribute [-go_sem]Builtin.append_
theorem atY:((List.range' 1 7).all fun v=>[(false,false),(true,false),(false,true)].all fun p=>decide (Dl (v:Nat) p.1 p.2≤1000))=true:=by decide +kernel
theorem atZ (v:Int) (d t:Bool):0≤Dl v d t∧Dl v d t≤1000:=by
 by_cases hb:v<1∨7<v∨(d && t)=true
 ·have:Dl v d t=0:=if_pos hb
  omega
 ·have hv:1≤v∧v≤7:=by omega
  have hdt:(d && t)=false:=by cases h:(d && t) with|false=>rfl|true=>exact absurd (.inr (.inr h)) hb
  have h0:=SV v d t hv hdt
  obtain ⟨n,rfl⟩:∃ n:Nat,v=n:=⟨v.toNat,by omega⟩
  have h1:=List.all_eq_true.1 atY n (by rw [List.mem_range'_1];omega)
  have h2:=List.all_eq_true.1 h1 (d,t) (by cases d<;>cases t<;>simp_all)
  have h3:=iY h2
  exact ⟨by omega,h3⟩
theorem Yw:∀ (t:Int)(l:List Ev),0≤t∧t≤1000→0≤JD t l∧JD t l≤1000
 | t,[],h=>h
 | t,e::r,h=>by
  unfold JD
  exact Yw _ r (by split<;>first|exact atZ _ _ _|exact h)
def qB (evs:List Ev):Nat→Int
 | 0=>0
 | k+1=>qB evs k+JD 0 (evs.take (k+1))
theorem Wi (evs:List Ev):∀ k,0≤qB evs k∧qB evs k≤1000*k
 | 0=>⟨yD 0,yD 0⟩
 | k+1=>by have h:=Wi evs k;have h2:=Yw 0 (evs.take (k+1)) (by decide);unfold qB;omega
def uw (evs:List Ev)(k:Nat):List Int:=(List.range (k+1)).map (qB evs)
theorem aeQ (evs:List Ev)(k:Nat):uw evs (k+1)=uw evs k++[qB evs (k+1)]:=by simp [uw,List.range_succ]
theorem He(evs:List Ev)(k:Nat):(uw evs k).length=k+1:=by simp [uw]
theorem Tryz.Rn:(Tryz.prog.info? 3).map (fun i=>(i.zero,i.size,i.bytes))=some (some (.int .i64 0),1,8):=by kernel_rfl
theorem Zw (M:PM) (p:aS) (w:World) (hP:uZ w w.heap.size M p) (hO:jm p) (h0:aV p=0):Calls Tryz.prog 70 #[iD M p] w fun e w' =>
  ∃ v,e=.returned (.tuple #[v,.int .i64 0])∧w'.ownsRow w.heap.size 3 1 v (p.evs.length+1) ((uw p.evs p.evs.length).map fun x=>.int .i64 x)∧Below w.heap.size w w':=by
 have hC:=fun (w':World) (hb:Below w.heap.size w w')=>CO M p w' (hP.after hb) hO
 rw [h0] at hC
 have hn3:=hO.n3
 have hT:=fun w'=>afB M p w'
 obtain ⟨A1,A2,A3,c1,c2,c3⟩:=M
 obtain ⟨n1,hn1⟩:∃ n,p.cs.length=n:=⟨_,rfl⟩
 obtain ⟨n2,hn2⟩:∃ n,p.st.length=n:=⟨_,rfl⟩
 obtain ⟨n3,hnn⟩:∃ n,p.evs.length=n:=⟨_,rfl⟩
 unfold iD at *
 simp only at *
 rw [hn1,hn2,hnn] at hC hT
 rw [hnn] at hn3
 rw [hn1,hn2,hnn]
 have HC:=Lib.hid hC
 have HT:=Lib.hid hT
 have HP:=Lib.hid hP
 have HN:=Lib.hid hnn
 obtain ⟨i0,hi,hz0,hz1,hz2⟩:=info_parts Tryz.Rn
 clear hC hT hP hnn hn1 hn2 hO h0
 refine (callsIn_wide (n:=4)).1 ?_
 refine callsIn_of_wp_marks Tryz.func70 rfl trivial ?_ rfl
 simp only [Tryz.ntmps70,Qj,iw,o9,Nat.reduceAdd,Nat.reduceSub,Array.replicate_succ,Array.replicate_zero,List.push_toArray,List.append_toArray,ug,zK]
 gi_wp2_with (first
  | (refine ⟨trivial,?_⟩;gi_at_call 51;refine (callsIn_wide.2 (HC.out _ jT)).mono ?_;rintro e' w1 ⟨rfl,hb1⟩;have k1:=(nN.new _ _ _).after hb1;have x0:w1.cell? ⟨w.heap.size,0,none⟩=some (.slice A1 n1 c1):=k1.cell 0;have x1:w1.cell? ⟨w.heap.size,1,none⟩=some (.slice A2 n2 c2):=k1.cell 1;have x2:w1.cell? ⟨w.heap.size,2,none⟩=some (.slice A3 n3 c3):=k1.cell 2;have l1:w.heap.size < w1.heap.size:=k1.lt;have K1:=Lib.hid k1;clear k1)
  | (refine ⟨trivial,?_⟩;gi_at_call 140;refine (callsIn_wide.2 (HT.out _)).mono ?_;rintro e' w2 ⟨rfl,rfl⟩))
 have hB0:Below w.heap.size w w1:=((Below.refl _ w).alloc (bJ _) _).trans (hb1.mono (by simp))
 have hB3:Below w.heap.size w (((w1.alloc (Obj.cells #[Value.int IntKind.i64 0] 3)).alloc (Obj.cells #[Value.slice (some { block:=w1.heap.size,off:=0 }) 1 1] 25)).alloc (Obj.cells #[Value.slice A1 n1 c1,Value.slice A2 n2 c2,Value.slice A3 n3 c3] 30)):=((hB0.alloc (by omega) _).alloc (by simp;omega) _).alloc (by simp;omega) _
 have kb:nN (((w1.alloc (Obj.cells #[Value.int IntKind.i64 0] 3)).alloc (Obj.cells #[Value.slice (some { block:=w1.heap.size,off:=0 }) 1 1] 25)).alloc (Obj.cells #[Value.slice A1 n1 c1,Value.slice A2 n2 c2,Value.slice A3 n3 c3] 30)) (w1.heap.size+1+1) 30 #[Value.slice A1 n1 c1,Value.slice A2 n2 c2,Value.slice A3 n3 c3]:=by
  have:=nN.new ((w1.alloc (Obj.cells #[Value.int IntKind.i64 0] 3)).alloc (Obj.cells #[Value.slice (some { block:=w1.heap.size,off:=0 }) 1 1] 25)) 30 #[Value.slice A1 n1 c1,Value.slice A2 n2 c2,Value.slice A3 n3 c3]
  rwa [World.size_alloc,World.size_alloc] at this
 refine ajl (n:=4) (gf:=203) (lb:=#[Value.pointer (some ⟨w1.heap.size+1+1,0,none⟩)]) rfl (enters_of Tryz.func203 bD rfl)
  (encs:=fun k=>#[.int .i64 (k:Int),.int .i64 (JD 0 (p.evs.take (k+1)))]) (len:=n3) (n₀:=w.heap.size) (by simp;omega)
  (fun l J W hW hJ hY h0=>afA 3 (by omega) l (w1.heap.size+1+1) w.heap.size n3 c3 A3 p.evs HN.out hn3 _ J hJ hY W (by have:=hW.size;simp at this;omega)
   ((hW.cell (p:=⟨w1.heap.size+1+1,2,none⟩) (by simp)).trans (kb.cell 2))
   (HP.out.2.1.below (hB3.trans (hW.mono hB3.size))) h0)
  (fun _=>rfl)
  (fun k W=>(∃ v,Boxed W (w1.heap.size+1) 25 v∧W.ownsRow w.heap.size 3 1 v (k+1) ((uw p.evs k).map fun x=>.int .i64 x)∧True)∧Below w.heap.size w W)
  (OwnFrom.and (Own.from (holdsRow_own w.heap.size (w1.heap.size+1) 25 3 1 (fun k=>k+1) (fun k=>(uw p.evs k).map fun x=>Value.int .i64 x) (fun _ _=>True)) _) (ownFrom_below (bJ _) (by simp;omega)))
  ⟨⟨.slice (some ⟨w1.heap.size,0,none⟩) 1 1,?_,?_,trivial⟩,hB3⟩
  (fun k=>{ tmps:=#[Value.agg #[Value.slice A1 n1 c1,Value.slice A2 n2 c2,Value.slice A3 n3 c3],
     Value.pointer (some { block:=w.heap.size,off:=0 }),Value.slice none 0 0,Value.int IntKind.i64 0,
     Value.int IntKind.i64 0,Value.pointer (some { block:=w1.heap.size+1,off:=0 }),.int .i64 (k:Int),.int .i64 (JD 0 (p.evs.take (k+1))),
     Value.agg #[Value.slice A1 n1 c1,Value.slice A2 n2 c2,Value.slice A3 n3 c3],Value.int IntKind.i64 0,
     Value.int IntKind.i64 0,Value.bool false,undef,Value.slice (some { block:=w1.heap.size,off:=0 }) 1 1,
     Value.agg #[Value.slice A1 n1 c1,Value.slice A2 n2 c2,Value.slice A3 n3 c3],
     Value.func (Fn.func 203) #[] #[Value.pointer (some { block:=w1.heap.size+1+1,off:=0 })],.int .i64 (k:Int),
     .int .i64 (JD 0 (p.evs.take (k+1))),undef,undef,undef,undef,undef,undef,undef,undef,undef,undef],defers:=[] }) ?assign ?body ?done
 ·have:=Boxed.new (w1.alloc (Obj.cells #[Value.int IntKind.i64 0] 3)) 25 (.slice (some ⟨w1.heap.size,0,none⟩) 1 1)
  rw [World.size_alloc] at this
  exact this.alloc _
 ·refine ((World.ownsRow.alloc ?_ _).alloc _)
  exact ⟨by simp [uw],.inr ⟨w1.heap.size,1,#[.int .i64 0],rfl,by omega,World.alloc_heap_new _ _,bJ _,by decide,rfl,by simp [uw,qB]⟩⟩
 case assign =>
  intro l k W K hK
  gi_wp2
  exact hK
 case body =>
  rintro l k W ⟨⟨v,hv,hrow,_⟩,hB⟩ hlt
  obtain ⟨g,cap,rfl⟩:=ownsRow_succ hrow
  have hc:=hv.cell
  obtain ⟨T,hT⟩:∃ T,JD 0 (p.evs.take (k+1))=T:=⟨_,rfl⟩
  have hx:W.cell? ⟨g,k,none⟩=some (.int .i64 (qB p.evs k)):=by
   rw [hrow.cellAt k (by omega)]
   simp [uw]
  have hbd:=Wi p.evs k
  have hTb:=Yw 0 (p.evs.take (k+1)) ⟨by decide,by decide⟩
  rw [hT] at hTb
  rw [hT]
  gi_wp2
  have hwr:IntKind.i64.wrap (qB p.evs k+T)=qB p.evs k+T:=Go.IntWalk.i64_in _ ⟨by omega,by omega⟩
  have hk1:((k:Int) < (k:Int)+1):=by omega
  have hfo:Tryz.prog.follows .mixedOrders=true:=by kernel_rfl
  obtain ⟨v',w4,hrun,r1,r2,r3⟩:=run_append_own (P:=Tryz.prog) ((W.alloc (Obj.cells #[.int .i64 (qB p.evs k+T)] 3)).drew) w.heap.size 25 25 3 i0 (.int .i64 0) 1 8 Tryz.underlying25 hi hz0 hz1 hz2 rfl (by decide) _ (k+1) _ (show (W.alloc _).ownsRow _ _ _ _ _ _ from hrow.alloc _) ⟨W.heap.size,0,none⟩ 1 1 [.int .i64 (qB p.evs k+T)] rfl (cell_one_new W _ _) (by simp [Value.oneCell']) XF (by omega) (by have:=hB.size;simp;omega)
  obtain ⟨g',cap',rfl⟩:=ownsRow_succ r1
  obtain ⟨hv1,hv2,hr2,hk2,hb2⟩:=hv.appended (tmp:=Obj.cells #[.int .i64 (qB p.evs k+T)] 3) (by decide) hrow hB.size au r1 ⟨r2.os,r2.tape,r2.output,r2.size,r2.block⟩
  have hc1:=hv1.cell
  have hlW:=hv.lt
  have hf1:=hv1.frozen
  gi_region_with_o (fail)
  all_goals exact ⟨hk2,hb2,⟨_,hv2,by rw [aeQ];simpa [qB,hT] using hr2,trivial⟩,hB.trans hb2⟩
 case done =>
  rintro D W hD ⟨⟨v,hv,hrow,_⟩,hB⟩ hK
  have hc:=hv.cell
  gi_wp2
  refine ⟨by simp,.inl ⟨_,_,rfl,run_takeDeferred hK,?_⟩⟩
  refine ⟨_,results_tmp2 rfl _ _ _,v,rfl,?_,hB.trans (belowK_b (w:=w) (bJ _) W D _ _ (by simp at hD;omega) hK rfl rfl)⟩
  exact ownsRow_putObj hrow _ hK rfl
end
end Go.Proofs.YthehkchjdkdbiaaGreatDoor
