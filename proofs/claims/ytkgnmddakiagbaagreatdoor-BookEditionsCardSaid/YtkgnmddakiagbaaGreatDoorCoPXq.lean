/- The column of an event: plain words. -/
import Derived.RangeFuncNested
import Derived.RangeFuncBound
import Derived.RangeFuncCalls
import Derived.RangeFuncLeaves
import Derived.RangeFuncBox
import Derived.Shelf.Abstract
import Derived.Shelf.RegionOpen
import Derived.OwnWalkIn
import Derived.TacticsInMore
import Derived.LoopNIn
import Derived.LoopIn
import Derived.Test.YtkgnmddakiagbaaGreatDoorPChXq
import Derived.Test.YtkgnmddakiagbaaGreatDoorFIXq
set_option linter.unusedVariables false
set_option linter.unusedSimpArgs false
namespace Go.Proofs.YtkgnmddakiagbaaGreatDoor
open Go.RowKit Go.Shelf
set_option maxHeartbeats 8000000
set_option maxRecDepth 100000
attribute [local go_sem]Oper.semAt_some
def frc:Int→List Ev→Int
 | t,[]=>t
 | t,e::r=>frc (if 0<tkV e.val e.dot e.three then tkV e.val e.dot e.three else t) r
theorem frc_snoc (e:Ev):∀ (t:Int)(l:List Ev),frc t (l++[e])=if 0<tkV e.val e.dot e.three then tkV e.val e.dot e.three else frc t l
 | t,[]=>rfl
 | t,x::l=>frc_snoc e _ l
theorem frc_take {evs:List Ev} {k:Nat} (h:k<evs.length)(t:Int):frc t (evs.take (k+1))=if 0<tkV evs[k].val evs[k].dot evs[k].three then tkV evs[k].val evs[k].dot evs[k].three else frc t (evs.take k):=by
 rw [List.take_succ_eq_append_getElem h,frc_snoc]
theorem grown_of_below {a b:World} (h:Below a.heap.size a b)(row:Option Nat):a.grownBy b row:=⟨h.os,h.tape,h.output,h.size,fun k hk _=>h.block k hk⟩
theorem timed1_in (n:Nat) (hn:1≤n) (l Bp n₀ len c:Nat) (A:Option Addr) (evs:List Ev) (hlen:evs.length=len) (hO:len≤420) (B0:Nat) (J:Nat→World→Prop) (hJ:AbidesFrom B0 J)
  (hY:∀ k W,J k W→k < len→YieldAt Fence.wide (n - 1) Tryz.prog l #[.int .i64 (k:Int),.int .i64 (frc 0 (evs.take (k+1)))] W fun e W'=>e=.returned (.bool true)∧J (k+1) W'∧Below n₀ W W')
  (W:World) (hn₀:n₀≤W.heap.size) (hc:W.cell? ⟨Bp,2,none⟩=some (.slice A len c)) (hE:EvsAt W n₀ A evs) (h0:J 0 W) :
  CallsIn Fence.wide n Tryz.prog 159 #[.func (.yield l) #[] #[],.pointer (some ⟨Bp,0,none⟩)] W fun e W'=>(∃ v,e=.returned v)∧J len W':=by
 have HE:=Lib.hid hE
 have HJ:=Lib.hid hJ
 have HL:=Lib.hid hlen
 clear hE hlen
 refine callsIn_of_wp Tryz.func159 rfl trivial ?_ rfl
 simp only [Tryz.ntmps159,List.size_toArray,List.length_cons,List.length_nil,Nat.reduceAdd,Nat.reduceSub,Array.replicate_succ,Array.replicate_zero,List.push_toArray,List.append_toArray,List.nil_append,List.cons_append]
 gi_wp2
 gi_loopw [3,10] (fun t i wr=>∃ k:Nat,k≤len∧i=.int .i64 k∧t=.int .i64 (frc 0 (evs.take k))∧J k wr∧Below n₀ W wr)
  (fun _ i _=>len - (intOf i).toNat)
 case atStart=>exact ⟨0,Nat.zero_le _,rfl,rfl,h0,Below.refl _ _⟩
 case round =>
  obtain ⟨k,hk,rfl,rfl,hJs,hnx⟩:=hrel
  have HX:=Lib.hid hnx
  by_cases hlt:k < len
  ·have hk2:k < evs.length:=by have:=HL.out;omega
   obtain ⟨ad,S,c',hA,hb,e0,e1,e2,e3,e4,e5,hS⟩:=(HE.out.below hnx).ev hk2
   subst hA
   have hfr:=frc_take hk2 0
   have KT:=Lib.hid (fun w=>ticks_any evs[k].val evs[k].dot evs[k].three w)
   obtain ⟨T,hT⟩:∃ T,tkV evs[k].val evs[k].dot evs[k].three=T:=⟨_,rfl⟩
   rw [hT] at hfr KT
   obtain ⟨e,he⟩:∃ e,evs[k]=e:=⟨_,rfl⟩
   rw [he] at e0 e1 e2 e3 e4 e5 KT
   obtain ⟨m,hm⟩:∃ m,e.stops.length=m:=⟨_,rfl⟩
   rw [hm] at e5
   clear hS hT
   have HFR:=Lib.hid hfr
   have HY:=hY k
   by_cases hT0:0 < T
   ·rw [if_pos hT0] at HFR
    gi_wp2_with (refine ⟨trivial,?_⟩;gi_at_call 160;refine (callsIn_wide.2 (KT.out _)).mono ?_;rintro e' w1 ⟨rfl,hb1⟩;have hbb:Below wr.heap.size wr w1:=((Below.refl _ wr).alloc (Nat.le_refl _) _).trans (hb1.mono (by simp));have HBB:=Lib.hid hbb;obtain ⟨fn,tmps,assign,body,hy,hR⟩:=HY w1 (HJ.out _ wr w1 none hJs (grown_of_below hbb _) (fun r h=>by cases h)) hlt;clear hbb;rw [HFR.out] at hy)
    refine hR.mono ?_
    rintro e W3 ⟨rfl,hJ3,hk3⟩
    gi_wp2
    go_roundw
    case rel=>exact ⟨k+1,by omega,by go_num,by rw [HFR.out],hJ3,(HX.out.trans (HBB.out.mono (by have:=HX.out.size;omega))).trans hk3⟩
    case measure=>simp [intOf];omega
   ·rw [if_neg hT0] at HFR
    obtain ⟨T0,hT0'⟩:∃ T0,frc 0 (evs.take k)=T0:=⟨_,rfl⟩
    rw [hT0'] at HFR
    rw [hT0']
    gi_wp2_with (refine ⟨trivial,?_⟩;gi_at_call 160;refine (callsIn_wide.2 (KT.out _)).mono ?_;rintro e' w1 ⟨rfl,hb1⟩;have hbb:Below wr.heap.size wr w1:=((Below.refl _ wr).alloc (Nat.le_refl _) _).trans (hb1.mono (by simp));have HBB:=Lib.hid hbb;obtain ⟨fn,tmps,assign,body,hy,hR⟩:=HY w1 (HJ.out _ wr w1 none hJs (grown_of_below hbb _) (fun r h=>by cases h)) hlt;clear hbb;rw [HFR.out] at hy)
    refine hR.mono ?_
    rintro e W3 ⟨rfl,hJ3,hk3⟩
    gi_wp2
    go_roundw
    case rel=>exact ⟨k+1,by omega,by go_num,by rw [HFR.out],hJ3,(HX.out.trans (HBB.out.mono (by have:=HX.out.size;omega))).trans hk3⟩
    case measure=>simp [intOf];omega
  ·obtain rfl:k=len:=by omega
   gi_wp2
   go_end0
   exact ⟨⟨_,rfl⟩,hJs⟩
theorem timed_any (M:PM) (p:Pce) (w:World):Calls Tryz.prog 97 #[pcValue M p] w fun e w'=>e=.returned (.func (.func 159) #[] #[.pointer (some ⟨w.heap.size,0,none⟩)]) ∧
  w'=w.alloc (.cells #[.slice M.A1 p.cs.length M.c1,.slice M.A2 p.st.length M.c2,.slice M.A3 p.evs.length M.c3] 29):=by
 unfold pcValue
 go_enter Tryz.func97,Tryz.ntmps97
 go_wp2
 go_ret
 exact ⟨rfl,rfl⟩
def rngPost (n₀:Nat)(I:Nat→World→Prop)(k:Nat)(W:World):Exit→Act→World→Prop
 | .normal,_,W'=>KeepsOthers W W'∧Below n₀ W W'∧I (k+1) W'
 | _,_,_=>False
theorem wp_range {P:Program} {n:Nat} {g:Operand} {ps:Array Tmp} {assign body:Code} {Q:Exit→Act→World→Prop} {a:Act} {w:World} {gf:Nat} {lb:Array Value}
  (hg:a.eval g=.func (.func gf) #[] lb) (eg:∀ args w,(callFunc gf args).run P w=.ok (.enter gf args) w) {encs:Nat→Array Value} {len n₀:Nat} (hn₀:n₀≤w.heap.size)
  (hit:∀ (l:Nat) (J:Nat→World→Prop) (W:World),Below w.heap.size w W→AbidesFrom W.heap.size J →
   (∀ k W1,J k W1→k < len→YieldAt Fence.wide (n - 1 - 1) P l (encs k) W1 fun e W'=>e=.returned (.bool true)∧J (k+1) W'∧Below n₀ W1 W')→J 0 W →
   CallsIn Fence.wide (n - 1) P gf (#[.func (.yield l) #[] #[]]++lb) W fun e W'=>(∃ v,e=.returned v)∧J len W')
  (hps:∀ k,(encs k).size=ps.size) (I:Nat→World→Prop) (hI:OwnFrom w.heap.size I) (h0:I 0 w) (a₁:Nat→Act)
  (hassign:∀ (l k:Nat) (W:World) (K:Act→World→Prop),K (a₁ k) W →
   assign.wpIn (Fence.wide.inRound l) (n - 1 - 1) P (Exit.then K (fun _ _ _=>False)) { tmps:=(ps.zip (encs k)).foldl (fun t (p,v)=>t.setIfInBounds p v) a.tmps,defers:=[] } W)
  (hbody:∀ (l k:Nat) (W:World),I k W→k < len→body.wpIn (Fence.wide.inRound l) (n - 1 - 1) P (rngPost n₀ I k W) (a₁ k) W)
  (hdone:∀ (D:Nat) (W:World),w.heap.size≤D→I len W→W.heap[D]?=some (.deferred (some []))→Q .normal { a with defers:={ target:=.collected D,args:=#[] }::a.defers } W) :
  (Code.rangeFunc g ps assign body).wpIn Fence.wide n P Q a w:=by
 refine wpIn_rangeFunc fun fn hfn=>?_
 obtain ⟨rec,hrec⟩:∃ rec:LoopState→Option Code→Loop,rec=fun st pe=>{ state:=st,pending:=pe,fn,tmps:=a.tmps,params:=ps,assign,body,defers:=w.heap.size }:=⟨_,rfl⟩
 obtain ⟨W1,hW1⟩:∃ W1,(w.alloc (.deferred (some []))).alloc (.loop (rec .ready none))=W1:=⟨_,rfl⟩
 have hL:W1.heap[w.heap.size+1]?=some (.loop (rec .ready none)):=by
  have:=World.alloc_heap_new (w.alloc (.deferred (some []))) (.loop (rec .ready none))
  rwa [World.size_alloc,hW1] at this
 have hD:W1.heap[w.heap.size]?=some (.deferred (some [])):=by
  rw [← hW1];exact (Below.heap_alloc _ _ _ (by simp)).trans (World.alloc_heap_new w _)
 have hB1:Below w.heap.size w W1:=by rw [← hW1];exact ((Below.refl _ w).alloc (Nat.le_refl _) _).alloc (by simp) _
 have hS1:w.heap.size≤W1.heap.size:=hB1.size
 refine ⟨w.heap.size+1,[{ target:=.collected w.heap.size,args:=#[] }],W1,{ target:=.fn (.func gf) lb,args:=#[.func (.yield (w.heap.size+1)) #[] #[]] },W1,gf,
  #[.func (.yield (w.heap.size+1)) #[] #[]]++lb,W1,?_,?_,fun _ _=>trivial,?_,fun h=>?_,?_⟩
 ·rw [← hW1,hrec];exact run_enterLoop_outer _ _ _ _ _
 ·simp only [resolve,hg]
  simp [go_sem]
 ·simp [invoke,go_sem,eg]
 ·simp [Fence.wide] at h
 ·have turn:∀ {A B:World} {row:Option Nat} {k:Nat} {o:Obj},A.grownBy B row→(∀ r,row=some r→W1.heap.size≤r∧∃ o:Obj,A.heap[r]?=some o∧o.isWalk=true)→A.heap[k]?=some o→o.isWalk=false→B.heap[k]?=some o :=
   fun hg' hr hk ho=>(grownBy_keeps hg' (fun r e=>(hr r e).2) hk ho).trans hk
  refine (hit (w.heap.size+1) (fun k W=>I k W∧W.heap[w.heap.size+1]?=some (.loop (rec .ready none))∧W.heap[w.heap.size]?=some (.deferred (some []))) W1 hB1
   (fun s A B row hs hg' hr=>⟨hI s A B row hs.1 hg' fun r e=>⟨Nat.le_trans hS1 (hr r e).1,(hr r e).2.imp fun o h=>⟨h.1,Obj.not_cells_of_walk h.2⟩⟩,turn hg' hr hs.2.1 rfl,turn hg' hr hs.2.2 rfl⟩)
   ?_ ⟨by rw [← hW1];exact hI.alloc _ (hI.alloc _ h0),hL,hD⟩).mono ?_
  ·rintro k W ⟨hi,hl,hd⟩ hk
   have hlt:w.heap.size+1 < W.heap.size:=(Array.getElem?_eq_some_iff.1 hl).1
   have hy:=run_yield (P:=P) (args:=encs k) hl (by rw [hrec];exact hps k)
   rw [hrec] at hy
   refine ⟨fn,_,assign,body,hy,roundIn_of_wpIn hfn (hassign _ k W _ ⟨_,run_beginRound hl (by rw [hrec]),?_⟩)⟩
   obtain ⟨W2,hW2⟩:∃ W2,W.putObj (w.heap.size+1) (.loop { rec .ready none with state:=.busy })=W2:=⟨_,rfl⟩
   have hl2:W2.heap[w.heap.size+1]?=some (.loop { rec .ready none with state:=.busy }):=by rw [← hW2];exact World.putObj_heap_same hlt
   have hd2:W2.heap[w.heap.size]?=some (.deferred (some [])):=by rw [← hW2];exact (World.putObj_heap_other (by omega)).trans hd
   have hb2:Below n₀ W W2:=by rw [← hW2];exact belowK_b hn₀ W _ _ _ (by omega) hl rfl rfl
   have hi2:I k W2:=by rw [← hW2];exact hI.putObj _ hi (by omega) hl rfl
   rw [hW2]
   refine wpIn_mono (hbody _ k W2 hi2 hk) ?_
   rintro e a3 W3 hp
   cases e with
   | normal =>
    obtain ⟨hk3,hb3,hi3⟩:=hp
    have hl3:=hk3.same _ _ hl2 rfl
    have hr:=run_endRound (P:=P) none hl3
    rw [hrec] at hr
    refine ⟨_,_,hr,rfl,⟨hI.putObj _ hi3 (by omega) hl3 rfl,?_,(World.putObj_heap_other (by omega)).trans (hk3.same _ _ hd2 rfl)⟩,(hb2.trans hb3).trans (belowK_b hn₀ W3 _ _ _ (by omega) hl3 rfl rfl)⟩
    rw [hrec]
    exact World.putObj_heap_same (Array.getElem?_eq_some_iff.1 hl3).1
   | ret=>exact hp.elim
   | exit id=>exact hp.elim
   | goto t=>exact hp.elim
   | panic ch=>exact hp.elim
   | outgrown=>exact hp.elim
  ·rintro e W2 ⟨⟨v,rfl⟩,hi,hl,hd⟩
   have hr:=run_endLoop (P:=P) hl (by rw [hrec];simp)
   rw [hrec] at hr
   exact ⟨none,_,hr,hdone _ _ (Nat.le_refl _) (hI.putObj _ hi (by omega) hl rfl) ((World.putObj_heap_other (by omega)).trans hd)⟩
end Go.Proofs.YtkgnmddakiagbaaGreatDoor
namespace Go.Proofs.YtkgnmddakiagbaaGreatDoor
open Go.RowKit
def sp(t:List UInt8):List UInt8:=32::t
def stT (s:Int)(L:Int→Nat)(x:Stp):List UInt8:=cellS s x.1 x.2.1 x.2.2.1 x.2.2.2.1 x.2.2.2.2 (L x.1)
def stK (s:Int)(L:Int→Nat)(x:Stp):Bool:=cellOk s x.1 x.2.1 x.2.2.1 x.2.2.2.1 x.2.2.2.2 (L x.1)
def stOn(l:List Stp)(c:Int):Option Stp:=l.find? fun x=>x.1 == c
def stF(s:Int)(L:Int→Nat)(l:List Stp)(c:Int):List UInt8 :=
 match stOn l c with
 | some x=>stT s L x
 | none=>[45]
def asc:Int→List Stp→Prop
 | _,[]=>True
 | m,x::r=>m<x.1∧asc x.1 r
theorem asc_of {p:Pce} {i:Int}:∀ {l:List Stp} {last:Int},stopsE p i last l=0→asc last l
 | [],_,_=>trivial
 | x::r,last,h=>by
  unfold stopsE at h
  by_cases h1:stopE p i x last≠0
  ·rw [if_pos h1]at h;exact absurd h h1
  ·rw [if_neg h1]at h
   refine⟨?_,asc_of h⟩
   by_cases h2:last<x.1
   ·exact h2
   ·exfalso;apply h1
    unfold stopE
    split
    ·decide
    ·split
     ·decide
     ·rw [if_pos (by omega)];decide
theorem asc_lt:∀ {l:List Stp} {m:Int},asc m l→∀ x∈l,m<x.1
 | y::r,m,h,x,hx=>by
  rcases List.mem_cons.1 hx with rfl|hx
  ·exact h.1
  ·have:=asc_lt h.2 x hx;have:=h.1;omega
theorem asc_take {l:List Stp}:∀ {m:Int} (k:Nat)(h:k<l.length),asc m l→∀ x∈l.take k,x.1<l[k].1:=by
 induction l with
 | nil=>intro m k h;simp at h
 | cons y r ih =>
  intro m k h ha x hx
  cases k with
  | zero=>simp at hx
  | succ k =>
   simp only [List.take_succ_cons,List.mem_cons] at hx
   rcases hx with rfl|hx
   ·exact asc_lt ha.2 _ (by simp)
   ·simpa using ih k (by simpa using h) ha.2 x hx
theorem stOn_none {l:List Stp} {c:Int} (h:∀ x∈l,x.1≠c):stOn l c=none:=by
 unfold stOn
 rw [List.find?_eq_none]
 intro x hx
 simpa using h x hx
theorem stOn_snoc (l:List Stp)(x:Stp)(c:Int)(h:∀ y∈l,y.1<x.1):stOn (l++[x]) c=if c=x.1 then some x else stOn l c:=by
 by_cases e:c=x.1
 ·rw [if_pos e]
  have h0:stOn l c=none:=stOn_none fun y hy=>by have:=h y hy;omega
  unfold stOn at h0 ⊢
  rw [List.find?_append,h0]
  simp [e]
 ·rw [if_neg e]
  unfold stOn
  rw [List.find?_append]
  have:[x].find? (fun y=>y.1 == c)=none:=by simp;omega
  rw [this,Option.or_none]
theorem stF_snoc (s:Int)(L:Int→Nat)(l:List Stp)(x:Stp)(c:Int)(h:∀ y∈l,y.1<x.1):stF s L (l++[x]) c=if c=x.1 then stT s L x else stF s L l c:=by
 unfold stF
 rw [stOn_snoc l x c h]
 by_cases e:c=x.1
 ·rw [if_pos e,if_pos e]
 ·rw [if_neg e,if_neg e]
def cAt(s:Int)(n j:Nat):Int:=if s=2 then(n:Int)-j else(j:Int)+1
def staffL (s:Int)(L:Int→Nat)(n:Nat)(l:List Stp):List (List UInt8):=(List.range n).map fun j=>stF s L l (cAt s n j)
theorem staffL_nil(s:Int)(L:Int→Nat)(n:Nat):staffL s L n []=List.replicate n [45]:=by
 unfold staffL
 apply List.ext_getElem
 ·simp
 ·intro i h1 h2;simp [stF,stOn]
theorem staffL_snoc (s:Int)(L:Int→Nat)(n:Nat)(l:List Stp)(x:Stp)(hs:s≠4)(h:∀ y∈l,y.1<x.1)(h1:1≤x.1)(hn:x.1≤n):staffL s L n (l++[x])=(staffL s L n l).set (lineV s x.1 n-1).toNat (stT s L x):=by
 apply List.ext_getElem
 ·simp [staffL]
 ·intro j h2 h3
  have hj:j<n:=by simpa [staffL]using h2
  rw [List.getElem_set]
  simp only [staffL,List.getElem_map,List.getElem_range]
  rw [stF_snoc s L l x _ h]
  have e:cAt s n j=x.1↔(lineV s x.1 n-1).toNat=j:=by
   unfold cAt lineV
   rw [if_neg hs]
   by_cases e2:s=2
   ·rw [if_pos e2,if_pos e2];omega
   ·rw [if_neg e2,if_neg e2];omega
  by_cases e3:cAt s n j=x.1
  ·rw [if_pos e3,if_pos (e.1 e3)]
  ·rw [if_neg e3,if_neg (fun q=>e3 (e.2 q))]
def outL (s:Int)(L:Int→Nat)(n:Nat)(l:List Stp):List (List UInt8) :=
 if s=2 then ((l.filter fun x=>decide ((n:Int)<x.1)).map (stT s L)).reverse else (l.filter fun x=>decide ((n:Int)<x.1)).map (stT s L)
theorem outL_in (s:Int)(L:Int→Nat)(n:Nat)(l:List Stp)(x:Stp)(h:x.1≤n):outL s L n (l++[x])=outL s L n l:=by
 unfold outL
 have:[x].filter (fun x=>decide ((n:Int)<x.1))=[]:=by simp;omega
 rw [List.filter_append,this,List.append_nil]
theorem outL_out (s:Int)(L:Int→Nat)(n:Nat)(l:List Stp)(x:Stp)(h:¬ x.1≤n):outL s L n (l++[x])=if s=2 then stT s L x::outL s L n l else outL s L n l++[stT s L x]:=by
 unfold outL
 have:[x].filter (fun x=>decide ((n:Int)<x.1))=[x]:=by simp;omega
 rw [List.filter_append,this]
 by_cases e:s=2
 ·rw [if_pos e,if_pos e,if_pos e];simp
 ·rw [if_neg e,if_neg e,if_neg e];simp
theorem outL_len(s:Int)(L:Int→Nat)(n:Nat)(l:List Stp):(outL s L n l).length≤l.length:=by
 unfold outL
 split
 ·simp;exact List.length_filter_le _ _
 ·simp;exact List.length_filter_le _ _
def headW (s:Int)(e:Ev):List (List UInt8):=if e.bar=true then [[124],tW e.val (sgI e.dot e.three)]else [tW e.val (sgI e.dot e.three)]
def staffN(s:Int)(p:Pce):Nat:=if s=4 then 0 else min p.cs.length 6
def colW (s:Int) (p:Pce) (i:Int) (e:Ev):List (List UInt8) :=
 headW s e++(if e.tie=true then [[126]] else if e.stops.length=0 then [[37]] else
  if s=2 then outL s (fun c=>longestN p.evs i c) (staffN s p) e.stops++staffL s (fun c=>longestN p.evs i c) (staffN s p) e.stops
  else staffL s (fun c=>longestN p.evs i c) (staffN s p) e.stops++outL s (fun c=>longestN p.evs i c) (staffN s p) e.stops)
def spW (l:List (List UInt8)):List UInt8:=l.flatMap sp
def joinW:List (List UInt8)→List UInt8
 | []=>[]
 | x::r=>x++spW r
theorem joinW_lib (l:List (List UInt8)):Lib.join l [32]=joinW l:=by
 cases l with
 | nil=>rfl
 | cons x r =>
  rw [Lib.join_cons]
  show x++Lib.joinTail [32] r=x++r.flatMap sp
  unfold Lib.joinTail
  rw [List.flatMap_def];rfl
def colS (s:Int)(p:Pce)(i:Int)(e:Ev):List UInt8:=joinW (colW s p i e)
/-! The reference goes over the courses. -/
def refHead (s:Int)(e:Ev):List UInt8:=(if e.bar=true then [124,32]else [])++tW e.val (sgI e.dot e.three)
theorem head_join (s:Int)(e:Ev)(r:List (List UInt8)):joinW (headW s e++r)=refHead s e++spW r:=by
 unfold headW refHead
 by_cases h:e.bar=true
 ·rw [if_pos h,if_pos h];simp [joinW,spW,sp]
 ·rw [if_neg h,if_neg h];simp [joinW]
theorem colS_tie {s:Int} {p:Pce} {i:Int} {e:Ev} (h:e.tie=true):colS s p i e=refHead s e++[32,126]:=by
 unfold colS colW
 rw [if_pos h,head_join];rfl
theorem colS_rest {s:Int} {p:Pce} {i:Int} {e:Ev} (h:¬ e.tie=true)(h1:e.stops.length=0):colS s p i e=refHead s e++[32,37]:=by
 unfold colS colW
 rw [if_neg h,if_pos h1,head_join];rfl
def refStaff (s:Int)(L:Int→Nat)(l:List Stp)(m:Nat):List UInt8 :=
 if s=2 then ((List.range m).map fun q:Nat=>sp (stF s L l ((q:Int)+1))).reverse.flatten else ((List.range m).map fun q:Nat=>sp (stF s L l ((q:Int)+1))).flatten
theorem refStaff_succ (s:Int)(L:Int→Nat)(l:List Stp)(m:Nat):refStaff s L l (m+1)=if s=2 then sp (stF s L l ((m:Int)+1))++refStaff s L l m else refStaff s L l m++sp (stF s L l ((m:Int)+1)):=by
 unfold refStaff
 rw [List.range_succ,List.map_append]
 by_cases e:s=2
 ·rw [if_pos e,if_pos e,if_pos e];simp
 ·rw [if_neg e,if_neg e,if_neg e];simp
theorem refStaff_all (s:Int)(L:Int→Nat)(l:List Stp)(n:Nat):refStaff s L l n=spW (staffL s L n l):=by
 unfold refStaff staffL spW
 rw [List.flatMap_def,List.map_map]
 by_cases e:s=2
 ·rw [if_pos e]
  congr 1
  apply List.ext_getElem
  ·simp
  ·intro j h1 h2
   have hj:j<n:=by simpa using h1
   simp only [List.getElem_reverse,List.getElem_map,List.getElem_range,List.length_map,List.length_range,Function.comp_apply,cAt,if_pos e]
   congr 2;omega
 ·rw [if_neg e]
  congr 1
  apply List.map_congr_left
  intro j hj
  simp only [Function.comp_apply,cAt,if_neg e]
def refOut (s:Int)(L:Int→Nat)(n:Nat)(l:List Stp)(c:Int):List UInt8:=spW (outL s L n (l.filter fun x=>decide (x.1≤c)))
theorem filter_up {l:List Stp} {c:Int}:∀ {m:Int},asc m l→(l.filter fun x=>decide (x.1≤c+1))=(l.filter fun x=>decide (x.1≤c))++(stOn l (c+1)).toList:=by
 induction l with
 | nil=>intro m _;rfl
 | cons x r ih =>
  intro m ha
  by_cases h1:x.1≤c
  ·have e:stOn (x::r) (c+1)=stOn r (c+1):=by
    unfold stOn
    rw [List.find?_cons_of_neg (by simp;omega)]
   rw [List.filter_cons_of_pos (by simp;omega),List.filter_cons_of_pos (by simpa using h1),e,ih ha.2];rfl
  ·have hr:∀ y∈r,¬ y.1≤c+1:=fun y hy=>by have:=asc_lt ha.2 y hy;omega
   have e1:(r.filter fun x=>decide (x.1≤c+1))=[]:=by rw [List.filter_eq_nil_iff];intro y hy;simpa using hr y hy
   have e2:(r.filter fun x=>decide (x.1≤c))=[]:=by rw [List.filter_eq_nil_iff];intro y hy;have:=hr y hy;simp;omega
   rw [List.filter_cons_of_neg (l:=r) (p:=fun x=>decide (x.1≤c)) (by simpa using h1),e2]
   by_cases h2:x.1=c+1
   ·rw [List.filter_cons_of_pos (by simp;omega),e1]
    unfold stOn
    rw [List.find?_cons_of_pos (by simpa using h2)];rfl
   ·rw [List.filter_cons_of_neg (by simp;omega),e1]
    have:stOn (x::r) (c+1)=none:=stOn_none fun y hy=>by
     rcases List.mem_cons.1 hy with rfl|hy
     ·exact h2
     ·have:=hr y hy;omega
    rw [this];rfl
theorem stOn_eq {l:List Stp} {c:Int} {x:Stp} (h:stOn l c=some x):x∈l∧x.1=c:=by
 unfold stOn at h
 exact⟨List.mem_of_find?_eq_some h,by simpa using List.find?_some h⟩
theorem refOut_up (s:Int)(L:Int→Nat)(n:Nat)(l:List Stp)(c m:Int)(ha:asc m l):refOut s L n l (c+1)=match stOn l (c+1)with
  | some x=>if c+1≤n then refOut s L n l c else if s=2 then sp (stT s L x)++refOut s L n l c else refOut s L n l c++sp (stT s L x)
  | none=>refOut s L n l c:=by
 unfold refOut
 rw [filter_up ha]
 cases hx:stOn l (c+1)with
 | none=>simp
 | some x =>
  have hxc:=(stOn_eq hx).2
  simp only [Option.toList_some]
  by_cases h1:c+1≤n
  ·rw [if_pos h1,outL_in _ _ _ _ _ (by omega)]
  ·rw [if_neg h1,outL_out _ _ _ _ _ (by omega)]
   by_cases e:s=2
   ·rw [if_pos e,if_pos e];simp [spW]
   ·rw [if_neg e,if_neg e];simp [spW]
theorem refOut_zero (s:Int)(L:Int→Nat)(n:Nat)(l:List Stp)(ha:asc 0 l):refOut s L n l 0=[]:=by
 unfold refOut
 have:(l.filter fun x=>decide (x.1≤0))=[]:=by rw [List.filter_eq_nil_iff];intro y hy;have:=asc_lt ha y hy;simp;omega
 rw [this]
 unfold outL;split<;>rfl
theorem refOut_all (s:Int)(L:Int→Nat)(n:Nat)(l:List Stp)(c:Int)(h:∀ x∈l,x.1≤c):refOut s L n l c=spW (outL s L n l):=by
 unfold refOut
 rw [List.filter_eq_self.2 fun x hx=>by simpa using h x hx]
theorem colS_chord {s:Int} {p:Pce} {i:Int} {e:Ev} {L:Int→Nat} (hL:L=fun c=>longestN p.evs i c)(h:¬ e.tie=true)(h1:¬ e.stops.length=0)(c:Int)(hc:∀ x∈e.stops,x.1≤c) :
  colS s p i e=refHead s e++(if s=2 then refOut s L (staffN s p) e.stops c else [])++refStaff s L e.stops (staffN s p)++(if s=2 then [] else refOut s L (staffN s p) e.stops c):=by
 subst hL
 unfold colS colW
 rw [if_neg h,if_neg h1,head_join,refOut_all _ _ _ _ _ hc,refStaff_all]
 by_cases e:s=2
 ·rw [if_pos e,if_pos e,if_pos e];simp [spW]
 ·rw [if_neg e,if_neg e,if_neg e];simp [spW]
/-! Lengths; no cell is a dash. -/
theorem cellS_len(s c f r g h L:Int)(hs:1≤s∧s≤4)(hc:1≤c∧c≤14)(hf:0≤f∧f≤18):(cellS s c f r g h L).length≤12:=by
 unfold cellS
 have h1:=(pS_len s c f hs hc hf).1
 have h2:=rR_len s r
 have h3:=rG_len s g
 have h4:=pH_len s h L
 simp only [List.length_append];omega
theorem symDash:((List.range' 1 4).all fun s=>(List.range' 1 14).all fun c=>(List.range 19).all fun f=>!(pOk (s:Nat) (c:Nat) (f:Nat)) || (match pS (s:Nat) (c:Nat) (f:Nat)with|x::_=>x != 45|[]=>false))=true:=by
 decide +kernel
theorem cellS_dash (s c f r g h L:Int) (hs:1≤s∧s≤4) (hc:1≤c∧c≤14) (hf:0≤f∧f≤18) (ho:pOk s c f=true):cellS s c f r g h L≠[45]:=by
 obtain ⟨s,rfl⟩:=Int.eq_ofNat_of_zero_le (show 0≤s by omega)
 obtain ⟨c,rfl⟩:=Int.eq_ofNat_of_zero_le (show 0≤c by omega)
 obtain ⟨f,rfl⟩:=Int.eq_ofNat_of_zero_le hf.1
 have h:=symDash
 rw [List.all_eq_true]at h
 have h1:=h s (List.mem_range'_1.2 (by omega))
 rw [List.all_eq_true]at h1
 have h2:=h1 c (List.mem_range'_1.2 (by omega))
 rw [List.all_eq_true]at h2
 have h3:=h2 f (List.mem_range.2 (by omega))
 rw [Bool.or_eq_true]at h3
 rcases h3 with h3|h3
 ·rw [Bool.not_eq_true']at h3;rw [h3]at ho;cases ho
 ·unfold cellS
  cases hp:pS (s:Nat) (c:Nat) (f:Nat)with
  | nil=>rw [hp]at h3;cases h3
  | cons x r =>
   rw [hp]at h3
   have:x≠45:=by simpa using h3
   simp only [List.cons_append]
   intro e
   injection e with e1 _
   exact this e1
theorem stK_of {s:Int} {p:Pce} {i:Int} {e:Ev} (h:lackE s p i e=[]):∀ x∈e.stops,stK s (fun c=>longestN p.evs i c) x=true:=fun x hx=>by
 unfold lackE at h
 have h1:=(List.append_eq_nil_iff.1 h).2
 rw [List.flatMap_eq_nil_iff] at h1
 have h2:=h1 x hx
 unfold lackStop at h2
 by_cases e1:pOk s x.1 x.2.1=false
 ·rw [if_pos e1] at h2;cases h2
 ·rw [if_neg e1] at h2
  have lk:∀ b i c w,lkIf b i c w=[]→b=true:=fun b i c w h=>by cases b<;>first|rfl|cases h
  obtain⟨a1,a2⟩:=List.append_eq_nil_iff.1 h2
  obtain⟨a2,a3⟩:=List.append_eq_nil_iff.1 a2
  unfold stK cellOk
  rw [lk _ _ _ _ a1,lk _ _ _ _ a2,lk _ _ _ _ a3]
  simpa using e1
theorem spW_len {n:Nat}:∀ {l:List (List UInt8)},(∀ t∈l,t.length≤n)→(spW l).length≤(n+1)*l.length
 | [],_=>by simp [spW]
 | x::r,h=>by
  have h1:=spW_len (l:=r) fun t ht=>h t (by simp [ht])
  have h2:=h x (by simp)
  unfold spW at h1 ⊢
  rw [List.flatMap_cons,List.length_append,List.length_cons,Nat.mul_succ]
  have:(sp x).length=x.length+1:=by simp [sp]
  omega
end Go.Proofs.YtkgnmddakiagbaaGreatDoor
