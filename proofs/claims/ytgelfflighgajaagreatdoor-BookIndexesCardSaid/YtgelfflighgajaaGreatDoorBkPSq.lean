/- Books: plain; titles; what is said of a book. -/
import Derived.Test.YtgelfflighgajaaGreatDoorMsSq
import Derived.Test.YtgelfflighgajaaGreatDoorClmSq
set_option maxHeartbeats 8000000
set_option maxRecDepth 100000
set_option linter.unusedVariables false
set_option linter.unusedSimpArgs false
namespace Go.Proofs.YtgelfflighgajaaGreatDoor
section
open Go.RowKit Go.WideShapes Go.ChangeShapes Go.Joins Go.Deep
theorem z4o {p:Prop} (h:p:=by omega):p:=h
theorem list_of {α:Type} {Q:Nat→α→Prop}:∀ (n:Nat),(∀ i,i<n→∃ x,Q i x)→∃ l:List α,l.length=n∧∀ i (h:i<l.length),Q i l[i]:=by
 intro n
 induction n with
 | zero=>intro _;exact⟨[],rfl,fun i h=>absurd h (by simp)⟩
 | succ n ih =>
  intro h
  obtain⟨l,hl,hq⟩:=ih fun i hi=>h i z4o
  obtain⟨x,hx⟩:=h n z4o
  refine⟨l++[x],by simp [hl],fun i hi=>?_⟩
  by_cases e:i<l.length
  ·rw [List.getElem_append_left e];exact hq i e
  ·have:i=n:=by simp at hi;omega
   subst this
   rw [List.getElem_append_right (by omega)]
   simpa [hl]using hx
section
variable {H:Type} {enc:TypeId×Value→H} {P:Program} {w w':World} {base:Nat} {spare:Nat→Bool} {held:Bool}
theorem trodAll_carry:∀ {ts:List TypeId} {vs:List Value} {ds:List (DataW H)} {ps:List MemPlace},DataW.TrodAll enc P w base spare held ts vs ds ps→(∀ p∈ps,w.sameAt w' p)→DataW.TrodAll enc P w' base spare held ts vs ds ps
 | [],[],[],_,h,_=>h
 | _::_,_::_,_::_,_,⟨p,q,⟨n,h1⟩,h2,e⟩,hs=>⟨p,q,⟨n,DataW.trod_carry n _ _ _ h1 (fun x hx=>hs x (by rw [e];exact List.mem_append_left _ hx))⟩,trodAll_carry h2 (fun x hx=>hs x (by rw [e];exact List.mem_append_right _ hx)),e⟩
theorem args_keep {W W':World} {T:TypeId→Prop} {sp:Nat→Bool} (K:Kids P T)(hz:∀ t e,T t→P.underlying t=some (.slice e)→0<P.cellsOf e) {ts:List TypeId} {vs:List Value} {ds:List (DataW H)} {ps:List MemPlace} (hT:∀ t∈ts,T t)
  (h:DataW.TrodAll enc P W 0 (fun _=>true) true ts vs ds ps)(hb:Below W.heap.size W W')(hlt:∀ p∈ps,p.block<W.heap.size)(hs:∀ p∈ps,sp p.block=true):DataW.TrodAll enc P W' 0 sp true ts vs ds ps :=
 DataW.TrodAll.respare K hz hT (trodAll_carry h fun p hp=>hb.same (hlt p hp)) hs
end
theorem typesKids:Kids Tryz.prog (·<Tryz.prog.types.size):=kids_rows (by kernel_rfl) (by kernel_rfl)
theorem slicesFull:∀ t e,t<Tryz.prog.types.size→Tryz.prog.underlying t=some (.slice e)→0<Tryz.prog.cellsOf e:=slices_full_of Tryz.prog (by kernel_rfl)
section
variable {H:Type} {enc:TypeId×Value→H} {w:World} {base:Nat} {spare:Nat→Bool} {held:Bool}
theorem cellsCourse:Tryz.prog.cellsOf 98=3:=by kernel_rfl
theorem cellsInt:Tryz.prog.cellsOf 3=1:=by kernel_rfl
theorem cellsBool:Tryz.prog.cellsOf 4=1:=by kernel_rfl
theorem cellsCourses:Tryz.prog.cellsOf 22=1:=by kernel_rfl
theorem cellsInts:Tryz.prog.cellsOf 23=1:=by kernel_rfl
theorem cellsInstrument:Tryz.prog.cellsOf 25=2:=by kernel_rfl
theorem open_courses {n:Nat} {v:Value} {x:DataW H×List MemPlace} (h:DataW.trod enc Tryz.prog w base spare held n 22 [v]=some x) :
    ∃ (A:Option Addr)(c:Nat)(cs:List (Int×Int×Bool)),v=.slice A cs.length c∧cs.length≤maxLen∧Rd w w.heap.size 3 A (cs.map crsCells):=by
  rcases open_slice (P:=Tryz.prog) Tryz.underlying22 h with⟨h0,_⟩|⟨a,len,cap,m,n',D,Pl,hcs,hb,hl,hm,hmm,_,hi⟩
  · obtain rfl:v=.slice none 0 0:=by simpa using h0
    exact⟨none,0,[],rfl,by simp,Rd.none_⟩
  · obtain rfl:v=.slice (some a) len cap:=by simpa using hcs
    have hlm:len≤m:=by rw [hmm];split <;> omega
    obtain⟨cs,hlen,hq⟩:=list_of (Q:=fun i (x:Int×Int×Bool) => w.cell? (a.add (i*3))=some (.int .i64 x.1)∧w.cell? (a.add (i*3+1))=some (.int .i64 x.2.1)∧w.cell? (a.add (i*3+2))=some (.bool x.2.2)) len (fun i hil => by
      obtain⟨cs',hc,ht'⟩:=hi i z4o
      rw [cellsCourse] at hc
      obtain⟨ys,n2,_,_,hlen,_,hf⟩:=DataW.trod_struct Tryz.underlying98 ht'
      obtain⟨_,hcl,hat⟩:=World.cells?_some hc
      match cs',hcl with
      | [u0,u1,u2],_ =>
        have f0:DataW.trod enc Tryz.prog w base spare held n2 3 [u0]=ys[0]?:=by simpa [cellsInt] using hf 0 _ rfl
        have f1:DataW.trod enc Tryz.prog w base spare held n2 3 [u1]=ys[1]?:=by simpa [cellsInt] using hf 1 _ rfl
        have f2:DataW.trod enc Tryz.prog w base spare held n2 4 [u2]=ys[2]?:=by simpa [cellsBool] using hf 2 _ rfl
        have g0:=hat 0 z4o
        have g1:=hat 1 z4o
        have g2:=hat 2 z4o
        simp only [add_of_add,Nat.add_zero,List.getElem?_cons_zero,List.getElem?_cons_succ] at g0 g1 g2
        obtain⟨y0,hy0⟩:∃ y,ys[0]?=some y :=⟨_,List.getElem?_eq_getElem (by rw [‹ys.length=_›];decide)⟩
        obtain⟨y1,hy1⟩:∃ y,ys[1]?=some y :=⟨_,List.getElem?_eq_getElem (by rw [‹ys.length=_›];decide)⟩
        obtain⟨y2,hy2⟩:∃ y,ys[2]?=some y :=⟨_,List.getElem?_eq_getElem (by rw [‹ys.length=_›];decide)⟩
        rw [hy0] at f0;rw [hy1] at f1;rw [hy2] at f2
        obtain⟨a0,e0,_,_⟩:=DataW.trod_int Tryz.underlying3 f0
        obtain⟨a1,e1,_,_⟩:=DataW.trod_int Tryz.underlying3 f1
        obtain⟨a2,e2,_⟩:=DataW.trod_bool Tryz.underlying4 f2
        simp only [List.cons.injEq,and_true] at e0 e1 e2
        subst e0 e1 e2
        exact⟨(a0,a1,a2),g0,g1,g2⟩)
    refine⟨some a,cap,cs,by rw [hlen],by omega,fun hpos =>⟨a,rfl,?_,?_⟩⟩
    · have hpos':0<cs.length:=by simpa using hpos
      have:=(hq 0 hpos').1
      have:=World.block_lt_of_cell? w _ this
      rwa [block_of_add] at this
    · intro k r hr j u hu
      rw [List.getElem?_map] at hr
      cases hk:cs[k]? with
      | none => rw [hk] at hr;cases hr
      | some x =>
        rw [hk] at hr
        obtain rfl:crsCells x=r:=by simpa using hr
        obtain⟨hkl,hkx⟩:=List.getElem?_eq_some_iff.1 hk
        have q:=hq k hkl
        rw [hkx] at q
        match j with
        | 0 => obtain rfl:Value.int .i64 x.1=u:=by simpa [crsCells] using hu
               simpa using q.1
        | 1 => obtain rfl:Value.int .i64 x.2.1=u:=by simpa [crsCells] using hu
               exact q.2.1
        | 2 => obtain rfl:Value.bool x.2.2=u:=by simpa [crsCells] using hu
               exact q.2.2
        | j+3 => simp [crsCells] at hu
theorem open_ints {n:Nat} {v:Value} {x:DataW H×List MemPlace} (h:DataW.trod enc Tryz.prog w base spare held n 23 [v]=some x) :
    ∃ (A:Option Addr)(c:Nat)(st:List Int),v=.slice A st.length c∧st.length≤maxLen∧Rd w w.heap.size 1 A (st.map intCell):=by
  rcases open_slice1 (P:=Tryz.prog) Tryz.underlying23 cellsInt h with⟨h0,_⟩|⟨a,len,cap,m,n',V,D,Pl,hcs,hb,hl,hm,hmm,_,hi⟩
  · obtain rfl:v=.slice none 0 0:=by simpa using h0
    exact⟨none,0,[],rfl,by simp,Rd.none_⟩
  · obtain rfl:v=.slice (some a) len cap:=by simpa using hcs
    have hlm:len≤m:=by rw [hmm];split <;> omega
    obtain⟨st,hlen,hq⟩:=list_of (Q:=fun i (x:Int) => w.cell? (a.add i)=some (.int .i64 x)) len (fun i hil => by
      obtain⟨hc,ht'⟩:=hi i z4o
      obtain⟨a0,e0,_,_⟩:=DataW.trod_int Tryz.underlying3 ht'
      simp only [List.cons.injEq,and_true] at e0
      exact⟨a0,by rw [hc,e0]⟩)
    refine⟨some a,cap,st,by rw [hlen],by omega,fun hpos =>⟨a,rfl,?_,?_⟩⟩
    · have hpos':0<st.length:=by simpa using hpos
      have:=World.block_lt_of_cell? w _ (hq 0 hpos')
      rwa [block_of_add] at this
    · intro k r hr j u hu
      rw [List.getElem?_map] at hr
      cases hk:st[k]? with
      | none => rw [hk] at hr;cases hr
      | some x =>
        rw [hk] at hr
        obtain rfl:intCell x=r:=by simpa using hr
        obtain⟨hkl,hkx⟩:=List.getElem?_eq_some_iff.1 hk
        have q:=hq k hkl
        rw [hkx] at q
        match j with
        | 0 => obtain rfl:Value.int .i64 x=u:=by simpa [intCell] using hu
               simpa using q
        | j+1 => simp [intCell] at hu
theorem open_ins {n:Nat} {v0 v1:Value} {x:DataW H×List MemPlace} (h:DataW.trod enc Tryz.prog w base spare held n 25 [v0,v1]=some x) :
  ∃ (A1 A2:Option Addr)(c1 c2:Nat)(cs:List (Int×Int×Bool))(st:List Int),v0=.slice A1 cs.length c1∧v1=.slice A2 st.length c2∧cs.length≤maxLen∧st.length≤maxLen∧InsAt w w.heap.size A1 A2 cs st:=by
 obtain⟨ys,n2,_,_,_,hys,hf⟩:=DataW.trod_struct Tryz.underlying25 h
 have f0:DataW.trod enc Tryz.prog w base spare held n2 22 [v0]=ys[0]?:=by simpa [cellsCourses]using hf 0 _ rfl
 have f1:DataW.trod enc Tryz.prog w base spare held n2 23 [v1]=ys[1]?:=by simpa [cellsInts]using hf 1 _ rfl
 obtain⟨y0,hy0⟩:∃ y,ys[0]?=some y:=⟨_,List.getElem?_eq_getElem (by rw [hys];decide)⟩
 obtain⟨y1,hy1⟩:∃ y,ys[1]?=some y:=⟨_,List.getElem?_eq_getElem (by rw [hys];decide)⟩
 rw [hy0]at f0;rw [hy1]at f1
 obtain⟨A1,c1,cs,e1,l1,r1⟩:=open_courses f0
 obtain⟨A2,c2,st,e2,l2,r2⟩:=open_ints f1
 exact⟨A1,A2,c1,c2,cs,st,e1,e2,l1,l2,r1,r2⟩
end
end
section
open Go.RowKit Go.WideShapes Go.ChangeShapes Go.Joins Go.Deep
section
variable {H:Type} {enc:TypeId×Value→H} {w:World} {base:Nat} {spare:Nat→Bool} {held:Bool}
theorem cellsStop':Tryz.prog.cellsOf 100=5:=by kernel_rfl
theorem cellsEvent:Tryz.prog.cellsOf 36=6:=by kernel_rfl
theorem cellsSign':Tryz.prog.cellsOf 33=3:=by kernel_rfl
theorem cellsStops:Tryz.prog.cellsOf 34=1:=by kernel_rfl
theorem cellsEvents:Tryz.prog.cellsOf 26=1:=by kernel_rfl
theorem cellsPiece:Tryz.prog.cellsOf 28=3:=by kernel_rfl
theorem open_stops {n:Nat} {v:Value} {x:DataW H×List MemPlace} (h:DataW.trod enc Tryz.prog w base spare held n 34 [v]=some x) :
  ∃ (A:Option Addr)(c:Nat)(l:List Stp),v=.slice A l.length c∧l.length≤c∧c≤maxLen∧StpsAt w w.heap.size A l:=by
 rcases open_slice (P:=Tryz.prog) Tryz.underlying34 h with⟨h0,_⟩|⟨a,len,cap,m,n',D,Pl,hcs,hb,hl,hm,hmm,_,hi⟩
 ·obtain rfl:v=.slice none 0 0:=by simpa using h0
  exact⟨none,0,[],rfl,by simp,by simp,Rd.none_⟩
 ·obtain rfl:v=.slice (some a) len cap:=by simpa using hcs
  have hlm:len≤m:=by rw [hmm];split<;>omega
  obtain⟨l,hlen,hq⟩:=list_of (Q:=fun i (x:Stp)=>∀ j u,(stpCells x)[j]?=some u→w.cell? (a.add (i*5+j))=some u) len (fun i hil=>by
   obtain⟨cs',hc,ht'⟩:=hi i z4o
   rw [cellsStop'] at hc
   obtain⟨ys,n2,_,_,hlen,hys,hf⟩:=DataW.trod_struct Tryz.underlying100 ht'
   obtain⟨_,hcl,hat⟩:=World.cells?_some hc
   match cs',hcl with
   | [u0,u1,u2,u3,u4],_ =>
    have f0:DataW.trod enc Tryz.prog w base spare held n2 3 [u0]=ys[0]?:=by simpa [cellsInt] using hf 0 _ rfl
    have f1:DataW.trod enc Tryz.prog w base spare held n2 3 [u1]=ys[1]?:=by simpa [cellsInt] using hf 1 _ rfl
    have f2:DataW.trod enc Tryz.prog w base spare held n2 3 [u2]=ys[2]?:=by simpa [cellsInt] using hf 2 _ rfl
    have f3:DataW.trod enc Tryz.prog w base spare held n2 3 [u3]=ys[3]?:=by simpa [cellsInt] using hf 3 _ rfl
    have f4:DataW.trod enc Tryz.prog w base spare held n2 3 [u4]=ys[4]?:=by simpa [cellsInt] using hf 4 _ rfl
    have gy:∀ j,j<5→∃ y,ys[j]?=some y:=fun j hj=>⟨_,List.getElem?_eq_getElem (by rw [hys];exact hj)⟩
    obtain⟨y0,hy0⟩:=gy 0 z4o
    obtain⟨y1,hy1⟩:=gy 1 z4o
    obtain⟨y2,hy2⟩:=gy 2 z4o
    obtain⟨y3,hy3⟩:=gy 3 z4o
    obtain⟨y4,hy4⟩:=gy 4 z4o
    rw [hy0] at f0;rw [hy1] at f1;rw [hy2] at f2;rw [hy3] at f3;rw [hy4] at f4
    obtain⟨a0,e0,_,_⟩:=DataW.trod_int Tryz.underlying3 f0
    obtain⟨a1,e1,_,_⟩:=DataW.trod_int Tryz.underlying3 f1
    obtain⟨a2,e2,_,_⟩:=DataW.trod_int Tryz.underlying3 f2
    obtain⟨a3,e3,_,_⟩:=DataW.trod_int Tryz.underlying3 f3
    obtain⟨a4,e4,_,_⟩:=DataW.trod_int Tryz.underlying3 f4
    simp only [List.cons.injEq,and_true] at e0 e1 e2 e3 e4
    subst e0 e1 e2 e3 e4
    refine⟨(a0,a1,a2,a3,a4),fun j u hu=>?_⟩
    have hj:j<5:=(List.getElem?_eq_some_iff.1 hu).1
    have:=hat j hj
    rw [add_of_add] at this
    rw [this]
    exact hu)
  refine⟨some a,cap,l,by rw [hlen],by omega,hm,fun hpos=>⟨a,rfl,?_,?_⟩⟩
  ·have hpos':0<l.length:=by simpa using hpos
   have:=World.block_lt_of_cell? w _ (hq 0 hpos' 0 _ rfl)
   rwa [block_of_add] at this
  ·intro k r hr j u hu
   rw [List.getElem?_map] at hr
   cases hk:l[k]? with
   | none=>rw [hk] at hr;cases hr
   | some x =>
    rw [hk] at hr
    obtain rfl:stpCells x=r:=by simpa using hr
    obtain⟨hkl,hkx⟩:=List.getElem?_eq_some_iff.1 hk
    have q:=hq k hkl
    rw [hkx] at q
    exact q j u hu
end
end
section
open Go.RowKit
def eMea (x:Int×Int×Int):List AV:=[.sc (.int .i64 x.1),.sc (.int .i64 x.2.1),.sc (.int .i64 x.2.2)]
theorem eMea_of(x:Int×Int×Int):∀ (i:Nat)av,(eMea x)[i]?=some av→∃ u,av=.sc u∧(mCell x)[i]?=some u∧u.oneCell'=true:=by
 intro i av a
 match i with
 | 0=>cases a;exact⟨_,rfl,rfl,rfl⟩
 | 1=>cases a;exact⟨_,rfl,rfl,rfl⟩
 | 2=>cases a;exact⟨_,rfl,rfl,rfl⟩
 | i+3=>simp [eMea]at a
def meaR (p:Pce):List (Int×Int×Int):=if pceE p=0 then mea p.evs p.evs.length else []
theorem pMeasures_FS (p:Pce) (hO:PcOk p):Ctr Tryz.prog 112 [ePce p] (.tu [.ls 3 ((meaR p).map eMea),.sc (.int .i64 (pceE p))]):=by
 intro w F vs hF hR
 match vs,hR.1 with
 | [v],_ =>
  obtain ⟨M,rfl,hM⟩:=pc_of_rp hF (hR.2 0 _ v rfl rfl)
  unfold meaR
  by_cases h0:pceE p=0
  ·rw [if_pos h0,h0]
   refine (pMeasures_ok M p w hM hO h0).mono fun e w' ⟨v,he,hrow,hb⟩=>?_
   obtain ⟨L,hL⟩:∃ L,mea p.evs p.evs.length=L:=⟨_,rfl⟩
   rw [hL] at hrow ⊢
   have hfl:mCells L=(L.map mCell).flatten:=by unfold mCells;rw [List.flatMap_def]
   rw [hfl] at hrow
   obtain ⟨A,c,rfl,hrd,hat,hc⟩:=rd_of_own (l:=L.map mCell) hrow (fun r hr=>by obtain ⟨x,_,rfl⟩:=List.mem_map.1 hr;rfl) rfl (by simp)
   refine ⟨_,newF F w w',he,hb,newF_le hF,newF_fw hF hb,newF_new,.tu _ _ rfl fun i av u a b=>?_⟩
   match i with
   | 0 =>
    cases a;cases b
    exact rp_of_rd (F:=F) (w:=w) hrd (fun ad e=>(hat ad e).2) hc (e:=eMea) (fun _=>rfl) eMea_of
   | 1=>cases a;cases b;exact .sc _
   | i+2=>simp at a
  ·rw [if_neg h0]
   refine (pMeasures_bad M p w hM hO h0).mono fun e w' ⟨he,hb⟩=>?_
   refine ⟨_,newF F w w',he,hb,newF_le hF,newF_fw hF hb,newF_new,.tu _ _ rfl fun i av u a b=>?_⟩
   match i with
   | 0=>cases a;cases b;exact .ls 3 [] none 0 ⟨0,0,none⟩ (fun _ _=>undef) (by simp) (by simp) (by simp) (by simp) (by simp)
   | 1=>cases a;cases b;exact .sc _
   | i+2=>simp at a
end
section
open Go.RowKit
structure En where
 t:List UInt8
 s:Int
 p:Pce
def eEn (e:En):List AV:=[.sc (.string (bs e.t)),.sc (.int .u8 e.s),.ls 3 (e.p.cs.map eCrs),.ls 1 (e.p.st.map eInt),.ls 6 (e.p.evs.map eEv)]
def eBk (b:List En):AV:=.ag [.ls 5 (b.map eEn)]
def chOk (c:UInt8):Bool:=decide (32≤(c.toNat:Int)) && decide ((c.toNat:Int)≤126)
def ttlOk (t:List UInt8):Bool:=decide (1≤t.length∧t.length≤60) && !(((t.getD 0 0).toNat:Int) == 32) && !(((t.getD (t.length-1) 0).toNat:Int) == 32) && t.all chOk
def ttlN(b:List En)(t:List UInt8):Nat:=(b.takeWhile fun e=>!(e.t == t)).length
def ttlI(b:List En)(t:List UInt8):Int:=if ttlN b t<b.length then(ttlN b t:Int)else -1
theorem ttlN_le(b:List En)(t:List UInt8):ttlN b t≤b.length:=(List.takeWhile_sublist _).length_le
theorem ttlN_before {b:List En} {t:List UInt8} {k:Nat} (h:k<ttlN b t) (hk:k<b.length):(b[k].t == t)=false:=by
 have h1:(b.takeWhile fun e=>!(e.t == t))[k]'h∈b.takeWhile fun e=>!(e.t == t):=List.getElem_mem _
 have h2:(b.takeWhile fun e=>!(e.t == t))[k]'h=b[k]:=(List.takeWhile_prefix _).getElem _
 have h3:=List.all_eq_true.1 (List.all_takeWhile (p:=fun e:En=>!(e.t == t)) (l:=b)) _ h1
 rw [h2] at h3
 simpa using h3
theorem ttlN_here {b:List En} {t:List UInt8} (h:ttlN b t<b.length):(b[ttlN b t].t == t)=true:=by
 have h1:b.drop (ttlN b t)=b.dropWhile fun e=>!(e.t == t):=by
  have e:=List.takeWhile_append_dropWhile (p:=fun e:En=>!(e.t == t)) (l:=b)
  have:=List.drop_left (l₁:=b.takeWhile fun e=>!(e.t == t)) (l₂:=b.dropWhile fun e=>!(e.t == t))
  rw [e] at this
  exact this
 have h2:b.drop (ttlN b t)=b[ttlN b t]::b.drop (ttlN b t+1):=List.drop_eq_getElem_cons h
 rw [h1] at h2
 have h3:=List.head?_dropWhile_not (fun e:En=>!(e.t == t)) b
 rw [h2] at h3
 simpa [List.getElem?_eq_getElem h] using h3
theorem ttlN_eq {b:List En} {t:List UInt8} {k:Nat} (hk:k<b.length) (h1:∀ i (hi:i<k),(b[i]'(by omega)).t≠t) (h2:b[k].t=t):ttlN b t=k:=by
 rcases Nat.lt_trichotomy (ttlN b t) k with h|h|h
 ·have:=ttlN_here (b:=b) (t:=t) z4o
  exact absurd (by simpa using this) (h1 _ h)
 ·exact h
 ·have:=ttlN_before h hk
  rw [h2] at this;simp at this
def enE(b:List En)(i:Nat)(e:En):Int :=
 if ttlOk e.t=false∨ttlN b e.t<i then 110 else if ¬ (1≤e.s∧e.s≤4)then 30 else if pceE e.p≠0 then pceE e.p else if lksR e.s e.p=[]then 0 else 31
def ensE (b:List En):Nat→List En→Int
 | _,[]=>0
 | i,e::r=>if enE b i e=0 then ensE b (i+1) r else enE b i e
def bkE(b:List En):Int:=if 64<b.length then 2 else ensE b 0 b
theorem ensE_all {b:List En}:∀ {l:List En} {i:Nat},(∀ k (h:k<l.length),enE b (i+k) l[k]=0)→ensE b i l=0
 | [],_,_=>rfl
 | e::r,i,h=>by
  have h0:enE b i e=0:=h 0 (by simp)
  have e1:ensE b i (e::r)=ensE b (i+1) r:=if_pos h0
  rw [e1]
  refine ensE_all fun k hk=>?_
  have:=h (k+1) (by simpa using hk)
  rw [show i+1+k=i+(k+1) by omega]
  exact this
theorem ensE_at {b:List En}:∀ {l:List En} {i k:Nat} (h:k<l.length),(∀ j (hj:j<k),enE b (i+j) (l[j]'(by omega))=0)→enE b (i+k) l[k]≠0→ensE b i l=enE b (i+k) l[k]
 | [],_,k,h,_,_=>by simp at h
 | e::r,i,0,h,_,h2=>if_neg h2
 | e::r,i,k+1,h,h1,h2=>by
  have h0:enE b i e=0:=h1 0 z4o
  have e1:ensE b i (e::r)=ensE b (i+1) r:=if_pos h0
  have e2:i+(k+1)=i+1+k:=by omega
  rw [e1]
  simp only [List.getElem_cons_succ] at h2 ⊢
  rw [e2] at h2 ⊢
  exact ensE_at (by simpa using h) (fun j hj=>by
   have:=h1 (j+1) z4o
   simp only [List.getElem_cons_succ] at this
   rw [show i+1+j=i+(j+1) by omega]
   exact this) h2
theorem bkE_ok {b:List En} (h:¬ 64<b.length)(h1:∀ k(h:k<b.length),enE b k b[k]=0):bkE b=0:=by
 unfold bkE
 rw [if_neg h]
 exact ensE_all fun k hk=>by simpa using h1 k hk
theorem bkE_at {b:List En} (h:¬ 64<b.length) {k:Nat} (hk:k<b.length) (h1:∀ j (hj:j<k),enE b j (b[j]'(by omega))=0) (h2:enE b k b[k]≠0):bkE b=enE b k b[k]:=by
 unfold bkE
 rw [if_neg h]
 have:=ensE_at (b:=b) (i:=0) hk (fun j hj=>by simpa using h1 j hj) (by simpa using h2)
 simpa using this
structure BkOk(b:List En):Prop where
 n:b.length≤70
 p:∀ k(h:k<b.length),PcOk b[k].p
 t:∀ k(h:k<b.length),b[k].t.length≤1000
end
end Go.Proofs.YtgelfflighgajaaGreatDoor
