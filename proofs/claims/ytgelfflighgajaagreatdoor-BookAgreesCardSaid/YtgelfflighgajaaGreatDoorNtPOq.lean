/- The notes of a piece: the plain part. -/
import Derived.RangeFuncNested
import Derived.RangeFuncBound
import Derived.Shelf.RegionOpen
import Derived.OwnWalkIn
import Derived.LoopNIn
import Derived.LoopIn
import Derived.Test.YtgelfflighgajaaGreatDoorPChOq
set_option maxHeartbeats 8000000
set_option maxRecDepth 100000
set_option linter.unusedVariables false
set_option linter.unusedSimpArgs false
namespace Go.Proofs.YtgelfflighgajaaGreatDoor
section
open Go.RowKit Go.Shelf
attribute [local go_sem]Oper.semAt_some
def frc:Int→List Ev→Int
 | t,[]=>t
 | t,e::r=>frc (if 0<tkV e.val e.dot e.three then tkV e.val e.dot e.three else t) r
theorem frc_snoc (e:Ev):∀ (t:Int)(l:List Ev),frc t (l++[e])=if 0<tkV e.val e.dot e.three then tkV e.val e.dot e.three else frc t l
 | t,[]=>rfl
 | t,x::l=>frc_snoc e _ l
theorem frc_take {evs:List Ev} {k:Nat} (h:k<evs.length)(t:Int):frc t (evs.take (k+1))=if 0<tkV evs[k].val evs[k].dot evs[k].three then tkV evs[k].val evs[k].dot evs[k].three else frc t (evs.take k):=by
 rw [List.take_succ_eq_append_getElem h,frc_snoc]
theorem grown_of_below {a b:World} (h:Below a.heap.size a b)(row:Option Nat):a.grownBy b row:=⟨h.os,h.tape,h.output,h.size,fun k hk _=>h.block k hk⟩
theorem timed1_in (n:Nat) (hn:1≤n) (l Bp n₀ len c:Nat) (A:Option Addr) (evs:List Ev) (hlen:evs.length=len) (hO:len≤420) (B0:Nat) (J:Nat→World→Prop) (hJ:AbidesFrom B0 J)
  (hY:∀ k W,J k W→k < len→YieldAt Fence.wide (n - 1) Tryz.prog l #[.int .i64 (k:Int),.int .i64 (frc 0 (evs.take (k+1)))] W fun e W'=>e=.returned (.bool true)∧J (k+1) W'∧Below n₀ W W')
  (W:World) (hn₀:n₀≤W.heap.size) (hc:W.cell? ⟨Bp,2,none⟩=some (.slice A len c)) (hE:EvsAt W n₀ A evs) (h0:J 0 W) :
  CallsIn Fence.wide n Tryz.prog 212 #[.func (.yield l) #[] #[],.pointer (some ⟨Bp,0,none⟩)] W fun e W'=>(∃ v,e=.returned v)∧J len W':=by
 have HE:=Lib.hid hE
 have HJ:=Lib.hid hJ
 have HL:=Lib.hid hlen
 clear hE hlen
 refine callsIn_of_wp Tryz.func212 rfl trivial ?_ rfl
 simp only [Tryz.ntmps212,List.size_toArray,List.length_cons,List.length_nil,Nat.reduceAdd,Nat.reduceSub,Array.replicate_succ,Array.replicate_zero,List.push_toArray,List.append_toArray,List.nil_append,List.cons_append]
 gi_wp2
 gi_loopw [3,10] (fun t i wr=>∃ k:Nat,k≤len∧i=.int .i64 k∧t=.int .i64 (frc 0 (evs.take k))∧J k wr∧Below n₀ W wr)
  (fun _ i _=>len - (intOf i).toNat)
 case atStart=>exact ⟨0,Nat.zero_le _,rfl,rfl,h0,Below.refl _ _⟩
 case round =>
  obtain ⟨k,hk,rfl,rfl,hJs,hnx⟩:=hrel
  have HX:=Lib.hid hnx
  by_cases hlt:k < len
  ·have hk2:k < evs.length:=by have:=HL.out;omega
   obtain ⟨ad,S,c',hA,hb,e0,e1,e2,e3,e4,e5,hS⟩:=(HE.out.below hnx).ev hk2
   subst hA
   have hfr:=frc_take hk2 0
   have KT:=Lib.hid (fun w=>ticks_any evs[k].val evs[k].dot evs[k].three w)
   obtain ⟨T,hT⟩:∃ T,tkV evs[k].val evs[k].dot evs[k].three=T:=⟨_,rfl⟩
   rw [hT] at hfr KT
   obtain ⟨e,he⟩:∃ e,evs[k]=e:=⟨_,rfl⟩
   rw [he] at e0 e1 e2 e3 e4 e5 KT
   obtain ⟨m,hm⟩:∃ m,e.stops.length=m:=⟨_,rfl⟩
   rw [hm] at e5
   clear hS hT
   have HFR:=Lib.hid hfr
   have HY:=hY k
   by_cases hT0:0 < T
   ·rw [if_pos hT0] at HFR
    gi_wp2_with (refine ⟨trivial,?_⟩;gi_at_call 178;refine (callsIn_wide.2 (KT.out _)).mono ?_;rintro e' w1 ⟨rfl,hb1⟩;have hbb:Below wr.heap.size wr w1:=((Below.refl _ wr).alloc (Nat.le_refl _) _).trans (hb1.mono (by simp));have HBB:=Lib.hid hbb;obtain ⟨fn,tmps,assign,body,hy,hR⟩:=HY w1 (HJ.out _ wr w1 none hJs (grown_of_below hbb _) (fun r h=>by cases h)) hlt;clear hbb;rw [HFR.out] at hy)
    refine hR.mono ?_
    rintro e W3 ⟨rfl,hJ3,hk3⟩
    gi_wp2
    go_roundw
    case rel=>exact ⟨k+1,by omega,by go_num,by rw [HFR.out],hJ3,(HX.out.trans (HBB.out.mono (by have:=HX.out.size;omega))).trans hk3⟩
    case measure=>simp [intOf];omega
   ·rw [if_neg hT0] at HFR
    obtain ⟨T0,hT0'⟩:∃ T0,frc 0 (evs.take k)=T0:=⟨_,rfl⟩
    rw [hT0'] at HFR
    rw [hT0']
    gi_wp2_with (refine ⟨trivial,?_⟩;gi_at_call 178;refine (callsIn_wide.2 (KT.out _)).mono ?_;rintro e' w1 ⟨rfl,hb1⟩;have hbb:Below wr.heap.size wr w1:=((Below.refl _ wr).alloc (Nat.le_refl _) _).trans (hb1.mono (by simp));have HBB:=Lib.hid hbb;obtain ⟨fn,tmps,assign,body,hy,hR⟩:=HY w1 (HJ.out _ wr w1 none hJs (grown_of_below hbb _) (fun r h=>by cases h)) hlt;clear hbb;rw [HFR.out] at hy)
    refine hR.mono ?_
    rintro e W3 ⟨rfl,hJ3,hk3⟩
    gi_wp2
    go_roundw
    case rel=>exact ⟨k+1,by omega,by go_num,by rw [HFR.out],hJ3,(HX.out.trans (HBB.out.mono (by have:=HX.out.size;omega))).trans hk3⟩
    case measure=>simp [intOf];omega
  ·obtain rfl:k=len:=by omega
   gi_wp2
   go_end0
   exact ⟨⟨_,rfl⟩,hJs⟩
theorem timed_any (M:PM) (p:Pce) (w:World):Calls Tryz.prog 173 #[pcValue M p] w fun e w'=>e=.returned (.func (.func 212) #[] #[.pointer (some ⟨w.heap.size,0,none⟩)]) ∧
  w'=w.alloc (.cells #[.slice M.A1 p.cs.length M.c1,.slice M.A2 p.st.length M.c2,.slice M.A3 p.evs.length M.c3] 28):=by
 unfold pcValue
 go_enter Tryz.func173,Tryz.ntmps173
 go_wp2
 go_ret
 exact ⟨rfl,rfl⟩
def rngPost (n₀:Nat)(I:Nat→World→Prop)(k:Nat)(W:World):Exit→Act→World→Prop
 | .normal,_,W'=>KeepsOthers W W'∧Below n₀ W W'∧I (k+1) W'
 | _,_,_=>False
theorem wp_range {P:Program} {n:Nat} {g:Operand} {ps:Array Tmp} {assign body:Code} {Q:Exit→Act→World→Prop} {a:Act} {w:World} {gf:Nat} {lb:Array Value}
  (hg:a.eval g=.func (.func gf) #[] lb) (eg:∀ args w,(callFunc gf args).run P w=.ok (.enter gf args) w) {encs:Nat→Array Value} {len n₀:Nat} (hn₀:n₀≤w.heap.size)
  (hit:∀ (l:Nat) (J:Nat→World→Prop) (W:World),Below w.heap.size w W→AbidesFrom W.heap.size J →
   (∀ k W1,J k W1→k < len→YieldAt Fence.wide (n - 1 - 1) P l (encs k) W1 fun e W'=>e=.returned (.bool true)∧J (k+1) W'∧Below n₀ W1 W')→J 0 W →
   CallsIn Fence.wide (n - 1) P gf (#[.func (.yield l) #[] #[]]++lb) W fun e W'=>(∃ v,e=.returned v)∧J len W')
  (hps:∀ k,(encs k).size=ps.size) (I:Nat→World→Prop) (hI:OwnFrom w.heap.size I) (h0:I 0 w) (a₁:Nat→Act)
  (hassign:∀ (l k:Nat) (W:World) (K:Act→World→Prop),K (a₁ k) W →
   assign.wpIn (Fence.wide.inRound l) (n - 1 - 1) P (Exit.then K (fun _ _ _=>False)) { tmps:=(ps.zip (encs k)).foldl (fun t (p,v)=>t.setIfInBounds p v) a.tmps,defers:=[] } W)
  (hbody:∀ (l k:Nat) (W:World),I k W→k < len→body.wpIn (Fence.wide.inRound l) (n - 1 - 1) P (rngPost n₀ I k W) (a₁ k) W)
  (hdone:∀ (D:Nat) (W:World),w.heap.size≤D→I len W→W.heap[D]?=some (.deferred (some []))→Q .normal { a with defers:={ target:=.collected D,args:=#[] }::a.defers } W) :
  (Code.rangeFunc g ps assign body).wpIn Fence.wide n P Q a w:=by
 refine wpIn_rangeFunc fun fn hfn=>?_
 obtain ⟨rec,hrec⟩:∃ rec:LoopState→Option Code→Loop,rec=fun st pe=>{ state:=st,pending:=pe,fn,tmps:=a.tmps,params:=ps,assign,body,defers:=w.heap.size }:=⟨_,rfl⟩
 obtain ⟨W1,hW1⟩:∃ W1,(w.alloc (.deferred (some []))).alloc (.loop (rec .ready none))=W1:=⟨_,rfl⟩
 have hL:W1.heap[w.heap.size+1]?=some (.loop (rec .ready none)):=by
  have:=World.alloc_heap_new (w.alloc (.deferred (some []))) (.loop (rec .ready none))
  rwa [World.size_alloc,hW1] at this
 have hD:W1.heap[w.heap.size]?=some (.deferred (some [])):=by
  rw [← hW1];exact (Below.heap_alloc _ _ _ (by simp)).trans (World.alloc_heap_new w _)
 have hB1:Below w.heap.size w W1:=by rw [← hW1];exact ((Below.refl _ w).alloc (Nat.le_refl _) _).alloc (by simp) _
 have hS1:w.heap.size≤W1.heap.size:=hB1.size
 refine ⟨w.heap.size+1,[{ target:=.collected w.heap.size,args:=#[] }],W1,{ target:=.fn (.func gf) lb,args:=#[.func (.yield (w.heap.size+1)) #[] #[]] },W1,gf,
  #[.func (.yield (w.heap.size+1)) #[] #[]]++lb,W1,?_,?_,fun _ _=>trivial,?_,fun h=>?_,?_⟩
 ·rw [← hW1,hrec];exact run_enterLoop_outer _ _ _ _ _
 ·simp only [resolve,hg]
  simp [go_sem]
 ·simp [invoke,go_sem,eg]
 ·simp [Fence.wide] at h
 ·have turn:∀ {A B:World} {row:Option Nat} {k:Nat} {o:Obj},A.grownBy B row→(∀ r,row=some r→W1.heap.size≤r∧∃ o:Obj,A.heap[r]?=some o∧o.isWalk=true)→A.heap[k]?=some o→o.isWalk=false→B.heap[k]?=some o :=
   fun hg' hr hk ho=>(grownBy_keeps hg' (fun r e=>(hr r e).2) hk ho).trans hk
  refine (hit (w.heap.size+1) (fun k W=>I k W∧W.heap[w.heap.size+1]?=some (.loop (rec .ready none))∧W.heap[w.heap.size]?=some (.deferred (some []))) W1 hB1
   (fun s A B row hs hg' hr=>⟨hI s A B row hs.1 hg' fun r e=>⟨Nat.le_trans hS1 (hr r e).1,(hr r e).2.imp fun o h=>⟨h.1,Obj.not_cells_of_walk h.2⟩⟩,turn hg' hr hs.2.1 rfl,turn hg' hr hs.2.2 rfl⟩)
   ?_ ⟨by rw [← hW1];exact hI.alloc _ (hI.alloc _ h0),hL,hD⟩).mono ?_
  ·rintro k W ⟨hi,hl,hd⟩ hk
   have hlt:w.heap.size+1 < W.heap.size:=(Array.getElem?_eq_some_iff.1 hl).1
   have hy:=run_yield (P:=P) (args:=encs k) hl (by rw [hrec];exact hps k)
   rw [hrec] at hy
   refine ⟨fn,_,assign,body,hy,roundIn_of_wpIn hfn (hassign _ k W _ ⟨_,run_beginRound hl (by rw [hrec]),?_⟩)⟩
   obtain ⟨W2,hW2⟩:∃ W2,W.putObj (w.heap.size+1) (.loop { rec .ready none with state:=.busy })=W2:=⟨_,rfl⟩
   have hl2:W2.heap[w.heap.size+1]?=some (.loop { rec .ready none with state:=.busy }):=by rw [← hW2];exact World.putObj_heap_same hlt
   have hd2:W2.heap[w.heap.size]?=some (.deferred (some [])):=by rw [← hW2];exact (World.putObj_heap_other (by omega)).trans hd
   have hb2:Below n₀ W W2:=by rw [← hW2];exact belowK_b hn₀ W _ _ _ (by omega) hl rfl rfl
   have hi2:I k W2:=by rw [← hW2];exact hI.putObj _ hi (by omega) hl rfl
   rw [hW2]
   refine wpIn_mono (hbody _ k W2 hi2 hk) ?_
   rintro e a3 W3 hp
   cases e with
   | normal =>
    obtain ⟨hk3,hb3,hi3⟩:=hp
    have hl3:=hk3.same _ _ hl2 rfl
    have hr:=run_endRound (P:=P) none hl3
    rw [hrec] at hr
    refine ⟨_,_,hr,rfl,⟨hI.putObj _ hi3 zqo hl3 rfl,?_,(World.putObj_heap_other zqo).trans (hk3.same _ _ hd2 rfl)⟩,(hb2.trans hb3).trans (belowK_b hn₀ W3 _ _ _ zqo hl3 rfl rfl)⟩
    rw [hrec]
    exact World.putObj_heap_same (Array.getElem?_eq_some_iff.1 hl3).1
   | ret=>exact hp.elim
   | exit id=>exact hp.elim
   | goto t=>exact hp.elim
   | panic ch=>exact hp.elim
   | outgrown=>exact hp.elim
  ·rintro e W2 ⟨⟨v,rfl⟩,hi,hl,hd⟩
   have hr:=run_endLoop (P:=P) hl (by rw [hrec];simp)
   rw [hrec] at hr
   exact ⟨none,_,hr,hdone _ _ (Nat.le_refl _) (hI.putObj _ hi zqo hl rfl) ((World.putObj_heap_other zqo).trans hd)⟩
end
section
open Go.RowKit Go.Shelf
attribute [local go_sem]Oper.semAt_some
attribute [-go_sem]Builtin.append_
theorem tkAll2:((List.range' 1 7).all fun v=>[(false,false),(true,false),(false,true)].all fun p=>decide (tkV (v:Nat) p.1 p.2≤1000))=true:=by decide +kernel
theorem tkV_le (v:Int) (d t:Bool):0≤tkV v d t∧tkV v d t≤1000:=by
 by_cases hb:v<1∨7<v∨(d && t)=true
 ·have:tkV v d t=0:=if_pos hb
  omega
 ·have hv:1≤v∧v≤7:=by omega
  have hdt:(d && t)=false:=by cases h:(d && t) with|false=>rfl|true=>exact absurd (.inr (.inr h)) hb
  have h0:=tkV_pos v d t hv hdt
  obtain ⟨n,rfl⟩:∃ n:Nat,v=n:=⟨v.toNat,by omega⟩
  have h1:=List.all_eq_true.1 tkAll2 n (by rw [List.mem_range'_1];omega)
  have h2:=List.all_eq_true.1 h1 (d,t) (by cases d<;>cases t<;>simp_all)
  have h3:=of_decide_eq_true h2
  exact ⟨by omega,h3⟩
theorem frc_le:∀ (t:Int)(l:List Ev),0≤t∧t≤1000→0≤frc t l∧frc t l≤1000
 | t,[],h=>h
 | t,e::r,h=>by
  unfold frc
  exact frc_le _ r (by split<;>first|exact tkV_le _ _ _|exact h)
def onsAt (evs:List Ev):Nat→Int
 | 0=>0
 | k+1=>onsAt evs k+frc 0 (evs.take (k+1))
theorem onsAt_le (evs:List Ev):∀ k,0≤onsAt evs k∧onsAt evs k≤1000*k
 | 0=>⟨Int.le_refl 0,Int.le_refl 0⟩
 | k+1=>by have h:=onsAt_le evs k;have h2:=frc_le 0 (evs.take (k+1)) (by decide);unfold onsAt;omega
def onsL (evs:List Ev)(k:Nat):List Int:=(List.range (k+1)).map (onsAt evs)
theorem onsL_succ (evs:List Ev)(k:Nat):onsL evs (k+1)=onsL evs k++[onsAt evs (k+1)]:=by simp [onsL,List.range_succ]
theorem onsL_length(evs:List Ev)(k:Nat):(onsL evs k).length=k+1:=by simp [onsL]
theorem Tryz.infoInt:(Tryz.prog.info? 3).map (fun i=>(i.zero,i.size,i.bytes))=some (some (.int .i64 0),1,8):=by kernel_rfl
theorem pOnsets_ok (M:PM) (p:Pce) (w:World) (hP:PcAt w w.heap.size M p) (hO:PcOk p) (h0:pceE p=0):Calls Tryz.prog 111 #[pcValue M p] w fun e w' =>
  ∃ v,e=.returned (.tuple #[v,.int .i64 0])∧w'.ownsRow w.heap.size 3 1 v (p.evs.length+1) ((onsL p.evs p.evs.length).map fun x=>.int .i64 x)∧Below w.heap.size w w':=by
 have hC:=fun (w':World) (hb:Below w.heap.size w w')=>pCheck_any M p w' (hP.after hb) hO
 rw [h0] at hC
 have hn3:=hO.n3
 have hT:=fun w'=>timed_any M p w'
 obtain ⟨A1,A2,A3,c1,c2,c3⟩:=M
 obtain ⟨n1,hn1⟩:∃ n,p.cs.length=n:=⟨_,rfl⟩
 obtain ⟨n2,hn2⟩:∃ n,p.st.length=n:=⟨_,rfl⟩
 obtain ⟨n3,hnn⟩:∃ n,p.evs.length=n:=⟨_,rfl⟩
 unfold pcValue at *
 simp only at *
 rw [hn1,hn2,hnn] at hC hT
 rw [hnn] at hn3
 rw [hn1,hn2,hnn]
 have HC:=Lib.hid hC
 have HT:=Lib.hid hT
 have HP:=Lib.hid hP
 have HN:=Lib.hid hnn
 obtain ⟨i0,hi,hz0,hz1,hz2⟩:=info_parts Tryz.infoInt
 clear hC hT hP hnn hn1 hn2 hO h0
 refine (callsIn_wide (n:=4)).1 ?_
 refine callsIn_of_wp_marks Tryz.func111 rfl trivial ?_ rfl
 simp only [Tryz.ntmps111,List.size_toArray,List.length_cons,List.length_nil,Nat.reduceAdd,Nat.reduceSub,Array.replicate_succ,Array.replicate_zero,List.push_toArray,List.append_toArray,List.nil_append,List.cons_append]
 gi_wp2_with (first
  | (refine ⟨trivial,?_⟩;gi_at_call 52;refine (callsIn_wide.2 (HC.out _ zqb)).mono ?_;rintro e' w1 ⟨rfl,hb1⟩;have k1:=(Blk.new _ _ _).after hb1;have x0:w1.cell? ⟨w.heap.size,0,none⟩=some (.slice A1 n1 c1):=k1.cell 0;have x1:w1.cell? ⟨w.heap.size,1,none⟩=some (.slice A2 n2 c2):=k1.cell 1;have x2:w1.cell? ⟨w.heap.size,2,none⟩=some (.slice A3 n3 c3):=k1.cell 2;have l1:w.heap.size < w1.heap.size:=k1.lt;have K1:=Lib.hid k1;clear k1)
  | (refine ⟨trivial,?_⟩;gi_at_call 173;refine (callsIn_wide.2 (HT.out _)).mono ?_;rintro e' w2 ⟨rfl,rfl⟩))
 have hB0:Below w.heap.size w w1:=((Below.refl _ w).alloc (Nat.le_refl _) _).trans (hb1.mono (by simp))
 have hB3:Below w.heap.size w (((w1.alloc (Obj.cells #[Value.int IntKind.i64 0] 3)).alloc (Obj.cells #[Value.slice (some { block:=w1.heap.size,off:=0 }) 1 1] 23)).alloc (Obj.cells #[Value.slice A1 n1 c1,Value.slice A2 n2 c2,Value.slice A3 n3 c3] 28)):=((hB0.alloc (by omega) _).alloc (by simp;omega) _).alloc (by simp;omega) _
 have kb:Blk (((w1.alloc (Obj.cells #[Value.int IntKind.i64 0] 3)).alloc (Obj.cells #[Value.slice (some { block:=w1.heap.size,off:=0 }) 1 1] 23)).alloc (Obj.cells #[Value.slice A1 n1 c1,Value.slice A2 n2 c2,Value.slice A3 n3 c3] 28)) (w1.heap.size+1+1) 28 #[Value.slice A1 n1 c1,Value.slice A2 n2 c2,Value.slice A3 n3 c3]:=by
  have:=Blk.new ((w1.alloc (Obj.cells #[Value.int IntKind.i64 0] 3)).alloc (Obj.cells #[Value.slice (some { block:=w1.heap.size,off:=0 }) 1 1] 23)) 28 #[Value.slice A1 n1 c1,Value.slice A2 n2 c2,Value.slice A3 n3 c3]
  rwa [World.size_alloc,World.size_alloc] at this
 refine wp_range (n:=4) (gf:=212) (lb:=#[Value.pointer (some ⟨w1.heap.size+1+1,0,none⟩)]) rfl (enters_of Tryz.func212 zqk rfl)
  (encs:=fun k=>#[.int .i64 (k:Int),.int .i64 (frc 0 (p.evs.take (k+1)))]) (len:=n3) (n₀:=w.heap.size) (by simp;omega)
  (fun l J W hW hJ hY h0=>timed1_in 3 (by omega) l (w1.heap.size+1+1) w.heap.size n3 c3 A3 p.evs HN.out hn3 _ J hJ hY W (by have:=hW.size;simp at this;omega)
   ((hW.cell (p:=⟨w1.heap.size+1+1,2,none⟩) (by simp)).trans (kb.cell 2))
   (HP.out.2.1.below (hB3.trans (hW.mono hB3.size))) h0)
  (fun _=>rfl)
  (fun k W=>(∃ v,Boxed W (w1.heap.size+1) 23 v∧W.ownsRow w.heap.size 3 1 v (k+1) ((onsL p.evs k).map fun x=>.int .i64 x)∧True)∧Below w.heap.size w W)
  (OwnFrom.and (Own.from (holdsRow_own w.heap.size (w1.heap.size+1) 23 3 1 (fun k=>k+1) (fun k=>(onsL p.evs k).map fun x=>Value.int .i64 x) (fun _ _=>True)) _) (ownFrom_below (Nat.le_refl _) (by simp;omega)))
  ⟨⟨.slice (some ⟨w1.heap.size,0,none⟩) 1 1,?_,?_,trivial⟩,hB3⟩
  (fun k=>{ tmps:=#[Value.agg #[Value.slice A1 n1 c1,Value.slice A2 n2 c2,Value.slice A3 n3 c3],
     Value.pointer (some { block:=w.heap.size,off:=0 }),Value.slice none 0 0,Value.int IntKind.i64 0,
     Value.int IntKind.i64 0,Value.pointer (some { block:=w1.heap.size+1,off:=0 }),.int .i64 (k:Int),.int .i64 (frc 0 (p.evs.take (k+1))),
     Value.agg #[Value.slice A1 n1 c1,Value.slice A2 n2 c2,Value.slice A3 n3 c3],Value.int IntKind.i64 0,
     Value.int IntKind.i64 0,Value.bool false,undef,Value.slice (some { block:=w1.heap.size,off:=0 }) 1 1,
     Value.agg #[Value.slice A1 n1 c1,Value.slice A2 n2 c2,Value.slice A3 n3 c3],
     Value.func (Fn.func 212) #[] #[Value.pointer (some { block:=w1.heap.size+1+1,off:=0 })],.int .i64 (k:Int),
     .int .i64 (frc 0 (p.evs.take (k+1))),undef,undef,undef,undef,undef,undef,undef,undef,undef,undef],defers:=[] }) ?assign ?body ?done
 ·have:=Boxed.new (w1.alloc (Obj.cells #[Value.int IntKind.i64 0] 3)) 23 (.slice (some ⟨w1.heap.size,0,none⟩) 1 1)
  rw [World.size_alloc] at this
  exact this.alloc _
 ·refine ((World.ownsRow.alloc ?_ _).alloc _)
  exact ⟨by simp [onsL],.inr ⟨w1.heap.size,1,#[.int .i64 0],rfl,by omega,World.alloc_heap_new _ _,Nat.le_refl _,by decide,rfl,by simp [onsL,onsAt]⟩⟩
 case assign =>
  intro l k W K hK
  gi_wp2
  exact hK
 case body =>
  rintro l k W ⟨⟨v,hv,hrow,_⟩,hB⟩ hlt
  obtain ⟨g,cap,rfl⟩:=ownsRow_succ hrow
  have hc:=hv.cell
  obtain ⟨T,hT⟩:∃ T,frc 0 (p.evs.take (k+1))=T:=⟨_,rfl⟩
  have hx:W.cell? ⟨g,k,none⟩=some (.int .i64 (onsAt p.evs k)):=by
   rw [hrow.cellAt k (by omega)]
   simp [onsL]
  have hbd:=onsAt_le p.evs k
  have hTb:=frc_le 0 (p.evs.take (k+1)) ⟨by decide,by decide⟩
  rw [hT] at hTb
  rw [hT]
  gi_wp2
  have hwr:IntKind.i64.wrap (onsAt p.evs k+T)=onsAt p.evs k+T:=Go.IntWalk.i64_in _ ⟨by omega,by omega⟩
  have hk1:((k:Int) < (k:Int)+1):=by omega
  have hfo:Tryz.prog.follows .mixedOrders=true:=by kernel_rfl
  obtain ⟨v',w4,hrun,r1,r2,r3⟩:=run_append_own (P:=Tryz.prog) ((W.alloc (Obj.cells #[.int .i64 (onsAt p.evs k+T)] 3)).drew) w.heap.size 23 23 3 i0 (.int .i64 0) 1 8 Tryz.underlying23 hi hz0 hz1 hz2 rfl (by decide) _ (k+1) _ (show (W.alloc _).ownsRow _ _ _ _ _ _ from hrow.alloc _) ⟨W.heap.size,0,none⟩ 1 1 [.int .i64 (onsAt p.evs k+T)] rfl (cell_one_new W _ _) (by simp [Value.oneCell']) (by unfold maxLen;omega) (by omega) (by have:=hB.size;simp;omega)
  obtain ⟨g',cap',rfl⟩:=ownsRow_succ r1
  obtain ⟨hv1,hv2,hr2,hk2,hb2⟩:=hv.appended (tmp:=Obj.cells #[.int .i64 (onsAt p.evs k+T)] 3) (by decide) hrow hB.size zqo r1 ⟨r2.os,r2.tape,r2.output,r2.size,r2.block⟩
  have hc1:=hv1.cell
  have hlW:=hv.lt
  have hf1:=hv1.frozen
  gi_region_with_o (fail)
  all_goals exact ⟨hk2,hb2,⟨_,hv2,by rw [onsL_succ];simpa [onsAt,hT] using hr2,trivial⟩,hB.trans hb2⟩
 case done =>
  rintro D W hD ⟨⟨v,hv,hrow,_⟩,hB⟩ hK
  have hc:=hv.cell
  gi_wp2
  refine ⟨by simp,.inl ⟨_,_,rfl,run_takeDeferred hK,?_⟩⟩
  refine ⟨_,results_tmp2 rfl _ _ _,v,rfl,?_,hB.trans (belowK_b (w:=w) (Nat.le_refl _) W D _ _ (by simp at hD;omega) hK rfl rfl)⟩
  exact ownsRow_putObj hrow _ hK rfl
end
section
open Go.RowKit
abbrev Nt:=Int×Int×Int×Int×Int
def stayN(evs:List Ev)(j:Nat):Nat:=j+((evs.drop j).takeWhile fun e=>e.tie).length
theorem stayN_tie {evs:List Ev} {j:Nat} (h:j<evs.length)(ht:evs[j].tie=true):stayN evs j=stayN evs (j+1):=by
 unfold stayN
 rw [List.drop_eq_getElem_cons h,List.takeWhile_cons_of_pos (by simpa using ht)]
 simp;omega
theorem stayN_no {evs:List Ev} {j:Nat} (h:j<evs.length)(ht:evs[j].tie=false):stayN evs j=j:=by
 unfold stayN
 rw [List.drop_eq_getElem_cons h,List.takeWhile_cons_of_neg (by simp [ht])]
 simp
theorem stayN_end {evs:List Ev} {j:Nat} (h:evs.length≤j):stayN evs j=j:=by
 unfold stayN
 rw [List.drop_eq_nil_of_le h];simp
theorem stayN_le {evs:List Ev} {j:Nat} (h:j≤evs.length):j≤stayN evs j∧stayN evs j≤evs.length:=by
 unfold stayN
 have h1:=(List.takeWhile_sublist (p:=fun e:Ev=>e.tie) (l:=evs.drop j)).length_le
 simp at h1
 omega
def pitN (cs:List (Int×Int×Bool))(st:List Int)(c f:Int):Int:=(cs.getD (c-1).toNat (0,0,false)).1+if 0<f then st.getD (f-1).toNat 0 else 0
structure NS where
 out:List Nt
 ring:List Int
def setTo (l:List Nt)(k:Nat)(t:Int):List Nt :=
 match l[k]? with
 | some n=>l.set k (n.1,n.2.1,n.2.2.1,n.2.2.2.1,t)
 | none=>l
def stopN (c:Nat)(t:Int)(s:NS):NS:=if 0<s.ring.getD c 0 then⟨setTo s.out (s.ring.getD c 0-1).toNat t,s.ring.set c 0⟩else s
def stopAll (t:Int):Nat→NS→NS
 | 0,s=>s
 | k+1,s=>stopN k t (stopAll t k s)
def noteN (p:Pce)(i:Nat)(x:Stp):Nt:=((i:Int),x.1,pitN p.cs p.st x.1 x.2.1,onsAt p.evs i,if 0<x.2.1 then onsAt p.evs (stayN p.evs (i+x.2.2.2.2.toNat+1))else onsAt p.evs p.evs.length)
def addN (p:Pce)(i:Nat)(x:Stp)(s:NS):NS :=
 ⟨(stopN x.1.toNat (onsAt p.evs i) s).out++[noteN p i x],if 0<x.2.1 then (stopN x.1.toNat (onsAt p.evs i) s).ring else (stopN x.1.toNat (onsAt p.evs i) s).ring.set x.1.toNat ((stopN x.1.toNat (onsAt p.evs i) s).out.length+1)⟩
def addQ (p:Pce)(k:Nat)(stops:List Stp)(s:NS):Nat→NS
 | 0=>s
 | q+1=>match stops[q]? with
  | some x=>addN p k x (addQ p k stops s q)
  | none=>addQ p k stops s q
def openN (p:Pce)(k:Nat)(e:Ev)(s:NS):NS:=if restB e then stopAll (onsAt p.evs k) 15 s else s
def nts (p:Pce):Nat→NS
 | 0=>⟨[],List.replicate 15 0⟩
 | k+1=>match p.evs[k]? with
  | some e=>addQ p k e.stops (openN p k e (nts p k)) e.stops.length
  | none=>nts p k
def prsN(p:Pce)(i:Nat)(x:Stp):Nt:=((i:Int),x.1,x.2.1,(noteN p i x).2.2.2.1,(noteN p i x).2.2.2.2)
def prsQ (p:Pce):Nat→List Nt
 | 0=>[]
 | k+1=>match p.evs[k]? with
  | some e=>prsQ p k++e.stops.map (prsN p k)
  | none=>prsQ p k
def cutB(evs:List Ev)(c:Int)(j:Nat):Bool:=match evs[j]? with
 | some e=>restB e|| hasB c e.stops
 | none=>false
def opnN (evs:List Ev)(i:Nat)(c:Int)(b:Nat):Option Nat:=(List.range b).find? fun j=>decide (i<j) && cutB evs c j
theorem opnN_succ (evs:List Ev)(i:Nat)(c:Int)(b:Nat):opnN evs i c (b+1)=(opnN evs i c b).or (if i<b∧cutB evs c b=true then some b else none):=by
 unfold opnN
 rw [List.range_succ,List.find?_append]
 congr 1
 by_cases h:i<b∧cutB evs c b=true
 ·rw [if_pos h];simp [h]
 ·rw [if_neg h]
  simp only [List.find?_cons,List.find?_nil]
  have:(decide (i<b) && cutB evs c b)=false:=by
   cases hq:(decide (i<b) && cutB evs c b)with
   | false=>rfl
   | true=>simp at hq;exact absurd hq h
  rw [this]
def valN (p:Pce)(b:Int→Nat)(y:Nat×Stp):Nt:=((y.1:Int),y.2.1,pitN p.cs p.st y.2.1 y.2.2.1,onsAt p.evs y.1,
 if 0<y.2.2.1 then onsAt p.evs (stayN p.evs (y.1+y.2.2.2.2.2.toNat+1))else onsAt p.evs ((opnN p.evs y.1 y.2.1 (b y.2.1)).getD p.evs.length))
def entQ (p:Pce):Nat→List (Nat×Stp)
 | 0=>[]
 | k+1=>match p.evs[k]? with
  | some e=>entQ p k++e.stops.map fun x=>(k,x)
  | none=>entQ p k
def rings (p:Pce)(b:Int→Nat)(c:Int)(y:Nat×Stp):Prop:=y.2.1=c∧¬ 0<y.2.2.1∧opnN p.evs y.1 c (b c)=none
structure NInv (p:Pce)(E:List (Nat×Stp))(b:Int→Nat)(s:NS):Prop where
 out:s.out=E.map (valN p b)
 len:s.ring.length=15
 r0:s.ring.getD 0 0=0
 ring:∀ c:Nat,1≤c→c≤14→(s.ring.getD c 0=0∧∀ y∈E,¬ rings p b c y)∨(∃ k:Nat,s.ring.getD c 0=k+1∧(∃ y,E[k]?=some y∧rings p b c y)∧∀ k' y,E[k']?=some y→rings p b c y→k'=k)
theorem ext_set {α:Type} {l m:List α} {k:Nat} {x:α} (hl:l.length=m.length) (h:∀ (i:Nat) u v,l[i]?=some u→m[i]?=some v→(if i=k then v=x else v=u)):l.set k x=m:=by
 apply List.ext_getElem (by simpa using hl)
 intro i h1 h2
 have h1':i<l.length:=by simpa using h1
 have:=h i l[i] m[i] (List.getElem?_eq_getElem h1') (List.getElem?_eq_getElem h2)
 rw [List.getElem_set]
 by_cases e:k=i
 ·rw [if_pos e];rw [if_pos e.symm] at this;exact this.symm
 ·rw [if_neg e];rw [if_neg (fun x=>e x.symm)] at this;exact this.symm
theorem NInv.stop {p:Pce} {E:List (Nat×Stp)} {b b':Int→Nat} {s:NS} (h:NInv p E b s) {m c:Nat} (hc:1≤c∧c≤14) (hb:b c=m) (hb':b' c=m+1) (ho:∀ x,x≠(c:Int)→b' x=b x) (hcut:cutB p.evs c m=true)
  (hE:∀ y∈E,y.2.1=(c:Int)→y.1<m):NInv p E b' (stopN c (onsAt p.evs m) s):=by
 have hop:∀ y∈E,y.2.1=(c:Int)→opnN p.evs y.1 c (b' c)=(opnN p.evs y.1 c (b c)).or (some m):=fun y hy hyc=>by
  rw [hb,hb',opnN_succ,if_pos ⟨hE y hy hyc,hcut⟩]
 have hval:∀ y∈E,¬ rings p b c y→valN p b' y=valN p b y:=fun y hy hr=>by
  unfold valN
  by_cases hyc:y.2.1=(c:Int)
  ·by_cases hf:0<y.2.2.1
   ·simp [hf]
   ·rw [if_neg hf,if_neg hf,hyc,hop y hy hyc]
    cases ho2:opnN p.evs y.1 c (b c) with
    | none=>exact absurd ⟨hyc,hf,ho2⟩ hr
    | some j=>rfl
  ·rw [ho _ hyc]
 have hnr:∀ y∈E,¬ rings p b' c y:=fun y hy hr=>by
  have:=hr.2.2
  rw [hop y hy hr.1] at this
  cases hq:opnN p.evs y.1 c (b c)<;>simp [hq] at this
 have hrings:∀ (c':Nat) y,c'≠c→(rings p b' c' y↔rings p b c' y):=fun c' y hne=>by
  unfold rings
  rw [ho _ (fun e=>hne (by omega))]
 unfold stopN
 rcases h.ring c hc.1 hc.2 with⟨h0,hall⟩|⟨k,hk,⟨y,hy,hr⟩,huni⟩
 ·rw [if_neg (by rw [h0];decide)]
  refine ⟨?_,h.len,h.r0,fun c' h1 h2=>?_⟩
  ·rw [h.out]
   exact List.map_congr_left fun y hy=>(hval y hy (hall y hy)).symm
  ·by_cases e:c'=c
   ·subst e;exact .inl ⟨h0,hnr⟩
   ·rcases h.ring c' h1 h2 with⟨q1,q2⟩|⟨k,q1,⟨y,q2,q3⟩,q4⟩
    ·exact .inl ⟨q1,fun y hy hr=>q2 y hy ((hrings c' y e).1 hr)⟩
    ·exact .inr ⟨k,q1,⟨y,q2,(hrings c' y e).2 q3⟩,fun k' y' a b=>q4 k' y' a ((hrings c' y' e).1 b)⟩
 ·rw [hk,if_pos (by omega)]
  have hkE:k<E.length:=(List.getElem?_eq_some_iff.1 hy).1
  have hyE:y∈E:=List.mem_of_getElem? hy
  refine ⟨?_,by simpa using h.len,?_,fun c' h1 h2=>?_⟩
  ·show setTo s.out ((k:Int)+1-1).toNat _=_
   rw [show ((k:Int)+1-1).toNat=k by omega]
   unfold setTo
   have hok:s.out[k]?=some (valN p b y):=by rw [h.out,List.getElem?_map,hy];rfl
   rw [hok]
   refine ext_set (by rw [h.out];simp) fun i u v hu hv=>?_
   rw [h.out,List.getElem?_map] at hu
   rw [List.getElem?_map] at hv
   cases hi:E[i]? with
   | none=>simp [hi] at hv
   | some z =>
    simp [hi] at hu hv
    subst hu hv
    by_cases e:i=k
    ·subst e
     rw [hy] at hi
     cases hi
     rw [if_pos rfl]
     unfold valN
     have hf:=hr.2.1
     simp only [if_neg hf]
     rw [hr.1,hop y hyE hr.1,hr.2.2];rfl
    ·rw [if_neg e]
     exact hval z (List.mem_of_getElem? hi) fun hz=>e (huni i z hi hz)
  ·simp only [List.getD_eq_getElem?_getD]
   rw [List.getElem?_set_ne (by omega)]
   have:=h.r0
   rwa [List.getD_eq_getElem?_getD] at this
  ·by_cases e:c'=c
   ·subst e
    refine .inl ⟨?_,hnr⟩
    simp only [List.getD_eq_getElem?_getD]
    rw [List.getElem?_set_self (by rw [h.len];omega)];rfl
   ·have hg:(s.ring.set c 0).getD c' 0=s.ring.getD c' 0:=by
     simp only [List.getD_eq_getElem?_getD]
     rw [List.getElem?_set_ne (fun x=>e x.symm)]
    rw [hg]
    rcases h.ring c' h1 h2 with⟨q1,q2⟩|⟨k,q1,⟨y,q2,q3⟩,q4⟩
    ·exact .inl ⟨q1,fun y hy hr=>q2 y hy ((hrings c' y e).1 hr)⟩
    ·exact .inr ⟨k,q1,⟨y,q2,(hrings c' y e).2 q3⟩,fun k' y' a b=>q4 k' y' a ((hrings c' y' e).1 b)⟩
theorem opnN_early(evs:List Ev)(i:Nat)(c:Int)(b:Nat)(h:b≤i+1):opnN evs i c b=none:=by
 unfold opnN
 rw [List.find?_eq_none]
 intro j hj
 rw [List.mem_range]at hj
 simp;omega
theorem NInv.add {p:Pce} {E:List (Nat×Stp)} {b:Int→Nat} {s:NS} (h:NInv p E b s) {m:Nat} {x:Stp} (hc:1≤x.1∧x.1≤14) (hb:b x.1=m+1) (hno:∀ y∈E,¬ rings p b x.1 y) :
  NInv p (E++[(m,x)]) b ⟨s.out++[noteN p m x],if 0<x.2.1 then s.ring else s.ring.set x.1.toNat (s.out.length+1)⟩:=by
 have hlenO:s.out.length=E.length:=by rw [h.out];simp
 have hv:noteN p m x=valN p b (m,x):=by
  unfold noteN valN
  by_cases hf:0<x.2.1
  ·simp [hf]
  ·simp only [if_neg hf]
   rw [hb,opnN_early _ _ _ _ (Nat.le_refl _)];rfl
 have hnew:∀ c:Nat,rings p b c (m,x)↔(x.1=c∧¬ 0<x.2.1):=fun c=>by
  unfold rings
  constructor
  ·exact fun h=>⟨h.1,h.2.1⟩
  ·rintro ⟨h1,h2⟩
   refine ⟨h1,h2,?_⟩
   rw [← h1,hb]
   exact opnN_early _ _ _ _ (Nat.le_refl _)
 have last:∀ (k:Nat) y,(E++[(m,x)])[k]?=some y→(E[k]?=some y)∨(k=E.length∧y=(m,x)):=fun k y hy=>by
  by_cases e:k<E.length
  ·rw [List.getElem?_append_left e] at hy;exact .inl hy
  ·rw [List.getElem?_append_right (by omega)] at hy
   have:k-E.length=0:=by have:=(List.getElem?_eq_some_iff.1 hy).1;simp at this;omega
   rw [this] at hy
   cases hy
   exact .inr ⟨by omega,rfl⟩
 have first:∀ (k:Nat) y,E[k]?=some y→(E++[(m,x)])[k]?=some y:=fun k y hy=>by
  rw [List.getElem?_append_left (List.getElem?_eq_some_iff.1 hy).1];exact hy
 by_cases hf:0<x.2.1
 ·rw [if_pos hf]
  refine ⟨by rw [h.out,hv];simp,h.len,h.r0,fun c h1 h2=>?_⟩
  have hn:¬ rings p b c (m,x):=fun hr=>((hnew c).1 hr).2 hf
  rcases h.ring c h1 h2 with⟨q1,q2⟩|⟨k,q1,⟨y,q2,q3⟩,q4⟩
  ·refine .inl ⟨q1,fun y hy hr=>?_⟩
   rcases List.mem_append.1 hy with hy|hy
   ·exact q2 y hy hr
   ·rw [List.mem_singleton] at hy;subst hy;exact hn hr
  ·refine .inr ⟨k,q1,⟨y,first k y q2,q3⟩,fun k' y' a b=>?_⟩
   rcases last k' y' a with a|⟨a,rfl⟩
   ·exact q4 k' y' a b
   ·exact absurd b hn
 ·rw [if_neg hf]
  refine ⟨by rw [h.out,hv];simp,by simpa using h.len,?_,fun c h1 h2=>?_⟩
  ·simp only [List.getD_eq_getElem?_getD]
   rw [List.getElem?_set_ne (by omega)]
   have:=h.r0
   rwa [List.getD_eq_getElem?_getD] at this
  ·by_cases e:x.1=c
   ·refine .inr ⟨E.length,?_,⟨(m,x),by simp,(hnew c).2 ⟨e,hf⟩⟩,fun k' y' a b=>?_⟩
    ·simp only [List.getD_eq_getElem?_getD]
     rw [show x.1.toNat=c by omega,List.getElem?_set_self (by rw [h.len];omega),hlenO];rfl
    ·rcases last k' y' a with a|⟨a,_⟩
     ·exact absurd (e ▸ b) (hno y' (List.mem_of_getElem? a))
     ·exact a
   ·have hg:(s.ring.set x.1.toNat (s.out.length+1)).getD c 0=s.ring.getD c 0:=by
     simp only [List.getD_eq_getElem?_getD]
     rw [List.getElem?_set_ne (by omega)]
    rw [hg]
    have hn:¬ rings p b c (m,x):=fun hr=>e ((hnew c).1 hr).1
    rcases h.ring c h1 h2 with⟨q1,q2⟩|⟨k,q1,⟨y,q2,q3⟩,q4⟩
    ·refine .inl ⟨q1,fun y hy hr=>?_⟩
     rcases List.mem_append.1 hy with hy|hy
     ·exact q2 y hy hr
     ·rw [List.mem_singleton] at hy;subst hy;exact hn hr
    ·refine .inr ⟨k,q1,⟨y,first k y q2,q3⟩,fun k' y' a b=>?_⟩
     rcases last k' y' a with a|⟨a,rfl⟩
     ·exact q4 k' y' a b
     ·exact absurd b hn
end
end Go.Proofs.YtgelfflighgajaaGreatDoor
