/- The look at an example of chapter 11. -/
import Derived.Test.YtgelfflighgajaaGreatDoorAlQTq
set_option maxHeartbeats 8000000
set_option maxRecDepth 100000
set_option linter.unusedVariables false
set_option linter.unusedSimpArgs false
namespace Go.Proofs.YtgelfflighgajaaGreatDoor
open Go.RowKit Go.WideShapes Go.ChangeShapes Go.Joins Go.Deep
theorem z53o {p : Prop} (h : p := by omega) : p := h
theorem z53l {m n : Nat} (h : m = n := by first | exact List.length_map _ | exact List.length_replicate | rfl) : m = n := h
theorem z53t {C : Cx} {σ σ' : St} (ρ : Nat → Nat) (ht : TrT σ ρ σ'.nk σ'.t := by repeat (first | exact trivial | refine ⟨⟨?_, ?_⟩, ?_⟩ | rfl)) (hm : TrM σ ρ σ'.nk σ'.M := by repeat (first | exact trivial | refine ⟨⟨?_, ?_, ?_⟩, ?_⟩ | rfl)) (hi : (injB ρ (σ'.M.map (·.1)) && pinB ρ σ'.nk C.np) = true := by rfl) : Tr C σ σ' := Tr.ren ρ ht hm hi
theorem z53u {C : Cx} {σ σ' : St} (ρ : Nat → Nat) (hm : TrM σ ρ σ'.nk σ'.M) (hi : (injB ρ (σ'.M.map (·.1)) && pinB ρ σ'.nk C.np) = true) (ht : TrT σ ρ σ'.nk σ'.t := by repeat (first | exact trivial | refine ⟨⟨?_, ?_⟩, ?_⟩ | rfl)) : Tr C σ σ' := Tr.ren ρ ht hm hi
theorem list_of {α:Type} {Q:Nat→α→Prop}:∀ (n:Nat),(∀ i,i<n→∃ x,Q i x)→∃ l:List α,l.length=n∧∀ i (h:i<l.length),Q i l[i]:=by
 intro n
 induction n with
 | zero=>intro _;exact⟨[],rfl,fun i h=>absurd h (by simp)⟩
 | succ n ih =>
  intro h
  obtain⟨l,hl,hq⟩:=ih fun i hi=>h i z53o
  obtain⟨x,hx⟩:=h n z53o
  refine⟨l++[x],by simp [hl],fun i hi=>?_⟩
  by_cases e:i<l.length
  ·rw [List.getElem_append_left e];exact hq i e
  ·have:i=n:=by simp at hi;omega
   subst this
   rw [List.getElem_append_right (by omega)]
   simpa [hl]using hx
section
variable {H:Type} {enc:TypeId×Value→H} {P:Program} {w w':World} {base:Nat} {spare:Nat→Bool} {held:Bool}
theorem trodAll_carry:∀ {ts:List TypeId} {vs:List Value} {ds:List (DataW H)} {ps:List MemPlace},DataW.TrodAll enc P w base spare held ts vs ds ps→(∀ p∈ps,w.sameAt w' p)→DataW.TrodAll enc P w' base spare held ts vs ds ps
 | [],[],[],_,h,_=>h
 | _::_,_::_,_::_,_,⟨p,q,⟨n,h1⟩,h2,e⟩,hs=>⟨p,q,⟨n,DataW.trod_carry n _ _ _ h1 (fun x hx=>hs x (by rw [e];exact List.mem_append_left _ hx))⟩,trodAll_carry h2 (fun x hx=>hs x (by rw [e];exact List.mem_append_right _ hx)),e⟩
theorem args_keep {W W':World} {T:TypeId→Prop} {sp:Nat→Bool} (K:Kids P T)(hz:∀ t e,T t→P.underlying t=some (.slice e)→0<P.cellsOf e) {ts:List TypeId} {vs:List Value} {ds:List (DataW H)} {ps:List MemPlace} (hT:∀ t∈ts,T t)
  (h:DataW.TrodAll enc P W 0 (fun _=>true) true ts vs ds ps)(hb:Below W.heap.size W W')(hlt:∀ p∈ps,p.block<W.heap.size)(hs:∀ p∈ps,sp p.block=true):DataW.TrodAll enc P W' 0 sp true ts vs ds ps :=
 DataW.TrodAll.respare K hz hT (trodAll_carry h fun p hp=>hb.same (hlt p hp)) hs
end
theorem typesKids:Kids Tryz.prog (·<Tryz.prog.types.size):=kids_rows (by kernel_rfl) (by kernel_rfl)
theorem slicesFull:∀ t e,t<Tryz.prog.types.size→Tryz.prog.underlying t=some (.slice e)→0<Tryz.prog.cellsOf e:=slices_full_of Tryz.prog (by kernel_rfl)
section
variable {H:Type} {enc:TypeId×Value→H} {w:World} {base:Nat} {spare:Nat→Bool} {held:Bool}
theorem cellsCourse:Tryz.prog.cellsOf 98=3:=by kernel_rfl
theorem cellsInt:Tryz.prog.cellsOf 3=1:=by kernel_rfl
theorem cellsBool:Tryz.prog.cellsOf 4=1:=by kernel_rfl
theorem cellsCourses:Tryz.prog.cellsOf 22=1:=by kernel_rfl
theorem cellsInts:Tryz.prog.cellsOf 23=1:=by kernel_rfl
theorem cellsInstrument:Tryz.prog.cellsOf 25=2:=by kernel_rfl
theorem open_courses {n:Nat} {v:Value} {x:DataW H×List MemPlace} (h:DataW.trod enc Tryz.prog w base spare held n 22 [v]=some x) :
    ∃ (A:Option Addr)(c:Nat)(cs:List (Int×Int×Bool)),v=.slice A cs.length c∧cs.length≤maxLen∧Rd w w.heap.size 3 A (cs.map crsCells):=by
  rcases open_slice (P:=Tryz.prog) Tryz.underlying22 h with⟨h0,_⟩|⟨a,len,cap,m,n',D,Pl,hcs,hb,hl,hm,hmm,_,hi⟩
  · obtain rfl:v=.slice none 0 0:=by simpa using h0
    exact⟨none,0,[],rfl,by simp,Rd.none_⟩
  · obtain rfl:v=.slice (some a) len cap:=by simpa using hcs
    have hlm:len≤m:=by rw [hmm];split <;> omega
    obtain⟨cs,hlen,hq⟩:=list_of (Q:=fun i (x:Int×Int×Bool) => w.cell? (a.add (i*3))=some (.int .i64 x.1)∧w.cell? (a.add (i*3+1))=some (.int .i64 x.2.1)∧w.cell? (a.add (i*3+2))=some (.bool x.2.2)) len (fun i hil => by
      obtain⟨cs',hc,ht'⟩:=hi i z53o
      rw [cellsCourse] at hc
      obtain⟨ys,n2,_,_,hlen,_,hf⟩:=DataW.trod_struct Tryz.underlying98 ht'
      obtain⟨_,hcl,hat⟩:=World.cells?_some hc
      match cs',hcl with
      | [u0,u1,u2],_ =>
        have f0:DataW.trod enc Tryz.prog w base spare held n2 3 [u0]=ys[0]?:=by simpa [cellsInt] using hf 0 _ rfl
        have f1:DataW.trod enc Tryz.prog w base spare held n2 3 [u1]=ys[1]?:=by simpa [cellsInt] using hf 1 _ rfl
        have f2:DataW.trod enc Tryz.prog w base spare held n2 4 [u2]=ys[2]?:=by simpa [cellsBool] using hf 2 _ rfl
        have g0:=hat 0 z53o
        have g1:=hat 1 z53o
        have g2:=hat 2 z53o
        simp only [add_of_add,Nat.add_zero,List.getElem?_cons_zero,List.getElem?_cons_succ] at g0 g1 g2
        obtain⟨y0,hy0⟩:∃ y,ys[0]?=some y :=⟨_,List.getElem?_eq_getElem (by rw [‹ys.length=_›];decide)⟩
        obtain⟨y1,hy1⟩:∃ y,ys[1]?=some y :=⟨_,List.getElem?_eq_getElem (by rw [‹ys.length=_›];decide)⟩
        obtain⟨y2,hy2⟩:∃ y,ys[2]?=some y :=⟨_,List.getElem?_eq_getElem (by rw [‹ys.length=_›];decide)⟩
        rw [hy0] at f0;rw [hy1] at f1;rw [hy2] at f2
        obtain⟨a0,e0,_,_⟩:=DataW.trod_int Tryz.underlying3 f0
        obtain⟨a1,e1,_,_⟩:=DataW.trod_int Tryz.underlying3 f1
        obtain⟨a2,e2,_⟩:=DataW.trod_bool Tryz.underlying4 f2
        simp only [List.cons.injEq,and_true] at e0 e1 e2
        subst e0 e1 e2
        exact⟨(a0,a1,a2),g0,g1,g2⟩)
    refine⟨some a,cap,cs,by rw [hlen],by omega,fun hpos =>⟨a,rfl,?_,?_⟩⟩
    · have hpos':0<cs.length:=by simpa using hpos
      have:=(hq 0 hpos').1
      have:=World.block_lt_of_cell? w _ this
      rwa [block_of_add] at this
    · intro k r hr j u hu
      rw [List.getElem?_map] at hr
      cases hk:cs[k]? with
      | none => rw [hk] at hr;cases hr
      | some x =>
        rw [hk] at hr
        obtain rfl:crsCells x=r:=by simpa using hr
        obtain⟨hkl,hkx⟩:=List.getElem?_eq_some_iff.1 hk
        have q:=hq k hkl
        rw [hkx] at q
        match j with
        | 0 => obtain rfl:Value.int .i64 x.1=u:=by simpa [crsCells] using hu
               simpa using q.1
        | 1 => obtain rfl:Value.int .i64 x.2.1=u:=by simpa [crsCells] using hu
               exact q.2.1
        | 2 => obtain rfl:Value.bool x.2.2=u:=by simpa [crsCells] using hu
               exact q.2.2
        | j+3 => simp [crsCells] at hu
theorem open_ints {n:Nat} {v:Value} {x:DataW H×List MemPlace} (h:DataW.trod enc Tryz.prog w base spare held n 23 [v]=some x) :
    ∃ (A:Option Addr)(c:Nat)(st:List Int),v=.slice A st.length c∧st.length≤maxLen∧Rd w w.heap.size 1 A (st.map intCell):=by
  rcases open_slice1 (P:=Tryz.prog) Tryz.underlying23 cellsInt h with⟨h0,_⟩|⟨a,len,cap,m,n',V,D,Pl,hcs,hb,hl,hm,hmm,_,hi⟩
  · obtain rfl:v=.slice none 0 0:=by simpa using h0
    exact⟨none,0,[],rfl,by simp,Rd.none_⟩
  · obtain rfl:v=.slice (some a) len cap:=by simpa using hcs
    have hlm:len≤m:=by rw [hmm];split <;> omega
    obtain⟨st,hlen,hq⟩:=list_of (Q:=fun i (x:Int) => w.cell? (a.add i)=some (.int .i64 x)) len (fun i hil => by
      obtain⟨hc,ht'⟩:=hi i z53o
      obtain⟨a0,e0,_,_⟩:=DataW.trod_int Tryz.underlying3 ht'
      simp only [List.cons.injEq,and_true] at e0
      exact⟨a0,by rw [hc,e0]⟩)
    refine⟨some a,cap,st,by rw [hlen],by omega,fun hpos =>⟨a,rfl,?_,?_⟩⟩
    · have hpos':0<st.length:=by simpa using hpos
      have:=World.block_lt_of_cell? w _ (hq 0 hpos')
      rwa [block_of_add] at this
    · intro k r hr j u hu
      rw [List.getElem?_map] at hr
      cases hk:st[k]? with
      | none => rw [hk] at hr;cases hr
      | some x =>
        rw [hk] at hr
        obtain rfl:intCell x=r:=by simpa using hr
        obtain⟨hkl,hkx⟩:=List.getElem?_eq_some_iff.1 hk
        have q:=hq k hkl
        rw [hkx] at q
        match j with
        | 0 => obtain rfl:Value.int .i64 x=u:=by simpa [intCell] using hu
               simpa using q
        | j+1 => simp [intCell] at hu
theorem open_ins {n:Nat} {v0 v1:Value} {x:DataW H×List MemPlace} (h:DataW.trod enc Tryz.prog w base spare held n 25 [v0,v1]=some x) :
  ∃ (A1 A2:Option Addr)(c1 c2:Nat)(cs:List (Int×Int×Bool))(st:List Int),v0=.slice A1 cs.length c1∧v1=.slice A2 st.length c2∧cs.length≤maxLen∧st.length≤maxLen∧InsAt w w.heap.size A1 A2 cs st:=by
 obtain⟨ys,n2,_,_,_,hys,hf⟩:=DataW.trod_struct Tryz.underlying25 h
 have f0:DataW.trod enc Tryz.prog w base spare held n2 22 [v0]=ys[0]?:=by simpa [cellsCourses]using hf 0 _ rfl
 have f1:DataW.trod enc Tryz.prog w base spare held n2 23 [v1]=ys[1]?:=by simpa [cellsInts]using hf 1 _ rfl
 obtain⟨y0,hy0⟩:∃ y,ys[0]?=some y:=⟨_,List.getElem?_eq_getElem (by rw [hys];decide)⟩
 obtain⟨y1,hy1⟩:∃ y,ys[1]?=some y:=⟨_,List.getElem?_eq_getElem (by rw [hys];decide)⟩
 rw [hy0]at f0;rw [hy1]at f1
 obtain⟨A1,c1,cs,e1,l1,r1⟩:=open_courses f0
 obtain⟨A2,c2,st,e2,l2,r2⟩:=open_ints f1
 exact⟨A1,A2,c1,c2,cs,st,e1,e2,l1,l2,r1,r2⟩
end
end Go.Proofs.YtgelfflighgajaaGreatDoor
namespace Go.Proofs.YtgelfflighgajaaGreatDoor
open Go.RowKit Go.WideShapes Go.ChangeShapes Go.Joins Go.Deep
section
variable {H:Type} {enc:TypeId×Value→H} {w:World} {base:Nat} {spare:Nat→Bool} {held:Bool}
theorem cellsStop':Tryz.prog.cellsOf 100=5:=by kernel_rfl
theorem cellsEvent:Tryz.prog.cellsOf 36=6:=by kernel_rfl
theorem cellsSign':Tryz.prog.cellsOf 33=3:=by kernel_rfl
theorem cellsStops:Tryz.prog.cellsOf 34=1:=by kernel_rfl
theorem cellsEvents:Tryz.prog.cellsOf 26=1:=by kernel_rfl
theorem cellsPiece:Tryz.prog.cellsOf 28=3:=by kernel_rfl
theorem open_stops {n:Nat} {v:Value} {x:DataW H×List MemPlace} (h:DataW.trod enc Tryz.prog w base spare held n 34 [v]=some x) :
  ∃ (A:Option Addr)(c:Nat)(l:List Stp),v=.slice A l.length c∧l.length≤c∧c≤maxLen∧StpsAt w w.heap.size A l:=by
 rcases open_slice (P:=Tryz.prog) Tryz.underlying34 h with⟨h0,_⟩|⟨a,len,cap,m,n',D,Pl,hcs,hb,hl,hm,hmm,_,hi⟩
 ·obtain rfl:v=.slice none 0 0:=by simpa using h0
  exact⟨none,0,[],rfl,by simp,by simp,Rd.none_⟩
 ·obtain rfl:v=.slice (some a) len cap:=by simpa using hcs
  have hlm:len≤m:=by rw [hmm];split<;>omega
  obtain⟨l,hlen,hq⟩:=list_of (Q:=fun i (x:Stp)=>∀ j u,(stpCells x)[j]?=some u→w.cell? (a.add (i*5+j))=some u) len (fun i hil=>by
   obtain⟨cs',hc,ht'⟩:=hi i z53o
   rw [cellsStop'] at hc
   obtain⟨ys,n2,_,_,hlen,hys,hf⟩:=DataW.trod_struct Tryz.underlying100 ht'
   obtain⟨_,hcl,hat⟩:=World.cells?_some hc
   match cs',hcl with
   | [u0,u1,u2,u3,u4],_ =>
    have f0:DataW.trod enc Tryz.prog w base spare held n2 3 [u0]=ys[0]?:=by simpa [cellsInt] using hf 0 _ rfl
    have f1:DataW.trod enc Tryz.prog w base spare held n2 3 [u1]=ys[1]?:=by simpa [cellsInt] using hf 1 _ rfl
    have f2:DataW.trod enc Tryz.prog w base spare held n2 3 [u2]=ys[2]?:=by simpa [cellsInt] using hf 2 _ rfl
    have f3:DataW.trod enc Tryz.prog w base spare held n2 3 [u3]=ys[3]?:=by simpa [cellsInt] using hf 3 _ rfl
    have f4:DataW.trod enc Tryz.prog w base spare held n2 3 [u4]=ys[4]?:=by simpa [cellsInt] using hf 4 _ rfl
    have gy:∀ j,j<5→∃ y,ys[j]?=some y:=fun j hj=>⟨_,List.getElem?_eq_getElem (by rw [hys];exact hj)⟩
    obtain⟨y0,hy0⟩:=gy 0 z53o
    obtain⟨y1,hy1⟩:=gy 1 z53o
    obtain⟨y2,hy2⟩:=gy 2 z53o
    obtain⟨y3,hy3⟩:=gy 3 z53o
    obtain⟨y4,hy4⟩:=gy 4 z53o
    rw [hy0] at f0;rw [hy1] at f1;rw [hy2] at f2;rw [hy3] at f3;rw [hy4] at f4
    obtain⟨a0,e0,_,_⟩:=DataW.trod_int Tryz.underlying3 f0
    obtain⟨a1,e1,_,_⟩:=DataW.trod_int Tryz.underlying3 f1
    obtain⟨a2,e2,_,_⟩:=DataW.trod_int Tryz.underlying3 f2
    obtain⟨a3,e3,_,_⟩:=DataW.trod_int Tryz.underlying3 f3
    obtain⟨a4,e4,_,_⟩:=DataW.trod_int Tryz.underlying3 f4
    simp only [List.cons.injEq,and_true] at e0 e1 e2 e3 e4
    subst e0 e1 e2 e3 e4
    refine⟨(a0,a1,a2,a3,a4),fun j u hu=>?_⟩
    have hj:j<5:=(List.getElem?_eq_some_iff.1 hu).1
    have:=hat j hj
    rw [add_of_add] at this
    rw [this]
    exact hu)
  refine⟨some a,cap,l,by rw [hlen],by omega,hm,fun hpos=>⟨a,rfl,?_,?_⟩⟩
  ·have hpos':0<l.length:=by simpa using hpos
   have:=World.block_lt_of_cell? w _ (hq 0 hpos' 0 _ rfl)
   rwa [block_of_add] at this
  ·intro k r hr j u hu
   rw [List.getElem?_map] at hr
   cases hk:l[k]? with
   | none=>rw [hk] at hr;cases hr
   | some x =>
    rw [hk] at hr
    obtain rfl:stpCells x=r:=by simpa using hr
    obtain⟨hkl,hkx⟩:=List.getElem?_eq_some_iff.1 hk
    have q:=hq k hkl
    rw [hkx] at q
    exact q j u hu
end
end Go.Proofs.YtgelfflighgajaaGreatDoor
namespace Go.Proofs.YtgelfflighgajaaGreatDoor
open Go.RowKit Go.WideShapes Go.ChangeShapes Go.Joins Go.Deep
theorem rp_mem {α:Type} {w:World} {n:Nat} {l:List α} {e:α→List AV} {f:α→List Value} {A:Option Addr} {c B:Nat} (hr:Rd w B n A (l.map f)) (hc:l.length≤c)
  (hf:∀ x,(e x).length=n) (hef:∀ x (j:Nat) av,(e x)[j]?=some av→∃ u,av=.sc u∧(f x)[j]?=some u∧u.oneCell'=true):RP (fun q=>w.cell? q) (.ls n (l.map e)) (.slice A l.length c):=by
 have hcell:∀ ad,A=some ad→∀ (k:Nat) x,l[k]?=some x→∀ (j:Nat) u,(f x)[j]?=some u→w.cell? (ad.add (k*n+j))=some u:=fun ad had k x hk j u hu=>by
  have hl:0<(l.map f).length:=by have:=(List.getElem?_eq_some_iff.1 hk).1;simp;omega
  obtain ⟨ad',e',_,h2⟩:=hr hl
  rw [had] at e'
  cases e'
  exact h2 k (f x) (by rw [List.getElem?_map,hk];rfl) j u hu
 have key:∀ (i:Nat) r (j:Nat) av,(l.map e)[i]?=some r→r[j]?=some av→∃ x u,l[i]?=some x∧av=.sc u∧(f x)[j]?=some u∧u.oneCell'=true:=fun i r j av hr' hav=>by
  rw [List.getElem?_map] at hr'
  cases hx:l[i]? with
  | none=>simp [hx] at hr'
  | some x =>
   rw [hx] at hr'
   obtain rfl:e x=r:=by simpa using hr'
   obtain ⟨u,a,b,c⟩:=hef x j av hav
   exact ⟨x,u,rfl,a,b,c⟩
 have hlen:l.length=(l.map e).length:=by simp
 rw [hlen]
 refine .ls n (l.map e) A c (A.getD ⟨0,0,none⟩) (fun i j=>((l[i]?).bind fun x=>(f x)[j]?).getD undef) (by simpa using hc) (fun r hr'=>?_) (fun hp=>?_) (fun i r j av hr' hav=>?_) (fun i r j av hr' hav=>?_)
 ·obtain ⟨x,_,rfl⟩:=List.mem_map.1 hr';exact hf x
 ·obtain ⟨ad,e',_⟩:=hr (by simpa using hp)
  rw [e'];rfl
 ·obtain ⟨x,u,h1,h2,h3,h4⟩:=key i r j av hr' hav
  obtain ⟨ad,e',_⟩:=hr (by have:=(List.getElem?_eq_some_iff.1 h1).1;simp;omega)
  simp only [h1,Option.bind_some,h3,Option.getD_some]
  rw [e']
  exact ⟨hcell ad e' i x h1 j u h3,h4⟩
 ·obtain ⟨x,u,h1,h2,h3,h4⟩:=key i r j av hr' hav
  simp only [h1,Option.bind_some,h3,Option.getD_some,h2]
  exact .sc u
theorem eStp_of(x:Stp)(j:Nat)(av:AV)(h:(eStp x)[j]?=some av):∃ u,av=.sc u∧(stpCells x)[j]?=some u∧u.oneCell'=true:=by
 match j with
 | 0=>cases h;exact⟨_,rfl,rfl,rfl⟩
 | 1=>cases h;exact⟨_,rfl,rfl,rfl⟩
 | 2=>cases h;exact⟨_,rfl,rfl,rfl⟩
 | 3=>cases h;exact⟨_,rfl,rfl,rfl⟩
 | 4=>cases h;exact⟨_,rfl,rfl,rfl⟩
 | j+5=>simp [eStp]at h
section
variable {H:Type} {enc:TypeId×Value→H} {w:World} {base:Nat} {spare:Nat→Bool} {held:Bool}
theorem cap_of_trod {n k c:Nat} {T e:TypeId} {A:Option Addr} {x:DataW H×List MemPlace} (hu:Tryz.prog.underlying T=some (.slice e))(h:DataW.trod enc Tryz.prog w base spare held n T [.slice A k c]=some x):k≤c:=by
 rcases open_slice (P:=Tryz.prog) hu h with⟨h0,_⟩|⟨a,len,cap,m,n',D,Pl,hcs,hb,hl,hm,hmm,_,hi⟩
 ·simp at h0;omega
 ·simp at hcs;omega
theorem open_events_rp {n:Nat} {v:Value} {x:DataW H×List MemPlace} (h:DataW.trod enc Tryz.prog w base spare held n 26 [v]=some x) :
  ∃ evs:List Ev,RP (fun q=>w.cell? q) (.ls 6 (evs.map eEv)) v:=by
 rcases open_slice (P:=Tryz.prog) Tryz.underlying26 h with⟨h0,_⟩|⟨a,len,cap,m,n',D,Pl,hcs,hb,hl,hm,hmm,_,hi⟩
 ·obtain rfl:v=.slice none 0 0:=by simpa using h0
  exact ⟨[],.ls 6 [] none 0 ⟨0,0,none⟩ (fun _ _=>undef) (by simp) (by simp) (fun h=>absurd h (by simp)) (fun i r j av h=>by simp at h) (fun i r j av h=>by simp at h)⟩
 ·obtain rfl:v=.slice (some a) len cap:=by simpa using hcs
  have hlm:len≤m:=by rw [hmm];split<;>omega
  obtain ⟨l,hlen,hq⟩:=list_of (Q:=fun i (x:Ev×(Option Addr×Nat))=>(∀ j u,(evCells x.1 x.2)[j]?=some u→w.cell? (a.add (i*6+j))=some u)∧StpsAt w w.heap.size x.2.1 x.1.stops∧x.1.stops.length≤x.2.2) len (fun i hil=>by
   obtain ⟨cs',hc,ht'⟩:=hi i z53o
   rw [cellsEvent] at hc
   obtain ⟨ys,n2,_,_,hlen,hys,hf⟩:=DataW.trod_struct Tryz.underlying36 ht'
   obtain ⟨_,hcl,hat⟩:=World.cells?_some hc
   match cs',hcl with
   | [u0,u1,u2,u3,u4,u5],_ =>
    have f0:DataW.trod enc Tryz.prog w base spare held n2 4 [u0]=ys[0]?:=by simpa [cellsBool] using hf 0 _ rfl
    have f1:DataW.trod enc Tryz.prog w base spare held n2 33 [u1,u2,u3]=ys[1]?:=by simpa [cellsSign'] using hf 1 _ rfl
    have f2:DataW.trod enc Tryz.prog w base spare held n2 4 [u4]=ys[2]?:=by simpa [cellsBool] using hf 2 _ rfl
    have f3:DataW.trod enc Tryz.prog w base spare held n2 34 [u5]=ys[3]?:=by simpa [cellsStops] using hf 3 _ rfl
    have gy:∀ j,j<4→∃ y,ys[j]?=some y:=fun j hj=>⟨_,List.getElem?_eq_getElem (by rw [hys];exact hj)⟩
    obtain ⟨y0,hy0⟩:=gy 0 z53o
    obtain ⟨y1,hy1⟩:=gy 1 z53o
    obtain ⟨y2,hy2⟩:=gy 2 z53o
    obtain ⟨y3,hy3⟩:=gy 3 z53o
    rw [hy0] at f0;rw [hy1] at f1;rw [hy2] at f2;rw [hy3] at f3
    obtain ⟨zs,n3,_,_,_,hzs,hg⟩:=DataW.trod_struct Tryz.underlying33 f1
    have s0:DataW.trod enc Tryz.prog w base spare held n3 3 [u1]=zs[0]?:=by simpa [cellsInt] using hg 0 _ rfl
    have s1:DataW.trod enc Tryz.prog w base spare held n3 4 [u2]=zs[1]?:=by simpa [cellsBool] using hg 1 _ rfl
    have s2:DataW.trod enc Tryz.prog w base spare held n3 4 [u3]=zs[2]?:=by simpa [cellsBool] using hg 2 _ rfl
    have gz:∀ j,j<3→∃ y,zs[j]?=some y:=fun j hj=>⟨_,List.getElem?_eq_getElem (by rw [hzs];exact hj)⟩
    obtain ⟨z0,hz0⟩:=gz 0 z53o
    obtain ⟨z1,hz1⟩:=gz 1 z53o
    obtain ⟨z2,hz2⟩:=gz 2 z53o
    rw [hz0] at s0;rw [hz1] at s1;rw [hz2] at s2
    obtain ⟨b0,e0,_⟩:=DataW.trod_bool Tryz.underlying4 f0
    obtain ⟨b1,e1,_,_⟩:=DataW.trod_int Tryz.underlying3 s0
    obtain ⟨b2,e2,_⟩:=DataW.trod_bool Tryz.underlying4 s1
    obtain ⟨b3,e3,_⟩:=DataW.trod_bool Tryz.underlying4 s2
    obtain ⟨b4,e4,_⟩:=DataW.trod_bool Tryz.underlying4 f2
    obtain ⟨S,c,l,e5,hlc,_,hS⟩:=open_stops f3
    simp only [List.cons.injEq,and_true] at e0 e1 e2 e3 e4
    subst e0 e1 e2 e3 e4 e5
    refine ⟨(⟨b0,b1,b2,b3,b4,l⟩,(S,c)),fun j u hu=>?_,hS,hlc⟩
    have hj:j<6:=(List.getElem?_eq_some_iff.1 hu).1
    have:=hat j hj
    rw [add_of_add] at this
    rw [this]
    exact hu)
  refine ⟨l.map (·.1),?_⟩
  have hll:len=((l.map (·.1)).map eEv).length:=by simp [hlen]
  have key:∀ (i:Nat) r (j:Nat) av,((l.map (·.1)).map eEv)[i]?=some r→r[j]?=some av→∃ x u,l[i]?=some x∧(evCells x.1 x.2)[j]?=some u∧w.cell? (a.add (i*6+j))=some u∧u.oneCell'=true∧RP (fun q=>w.cell? q) av u:=fun i r j av hr hav=>by
   rw [List.map_map,List.getElem?_map] at hr
   cases hx:l[i]? with
   | none=>simp [hx] at hr
   | some x =>
    rw [hx] at hr
    obtain rfl:eEv x.1=r:=by simpa using hr
    obtain ⟨hkl,hkx⟩:=List.getElem?_eq_some_iff.1 hx
    have q:=hq i hkl
    rw [hkx] at q
    have fin:∀ u,(evCells x.1 x.2)[j]?=some u→u.oneCell'=true→RP (fun q=>w.cell? q) av u→∃ x' u,some x=some x'∧(evCells x'.1 x'.2)[j]?=some u∧w.cell? (a.add (i*6+j))=some u∧u.oneCell'=true∧RP (fun q=>w.cell? q) av u:=fun u h1 h2 h3=>⟨x,u,rfl,h1,q.1 j u h1,h2,h3⟩
    match j with
    | 0=>cases hav;exact fin _ rfl rfl (.sc _)
    | 1=>cases hav;exact fin _ rfl rfl (.sc _)
    | 2=>cases hav;exact fin _ rfl rfl (.sc _)
    | 3=>cases hav;exact fin _ rfl rfl (.sc _)
    | 4=>cases hav;exact fin _ rfl rfl (.sc _)
    | 5=>cases hav;exact fin _ rfl rfl (rp_mem q.2.1 q.2.2 (fun _=>rfl) eStp_of)
    | j+6=>simp [eEv] at hav
  rw [hll]
  refine .ls 6 _ (some a) cap a (fun i j=>((l[i]?).bind fun x=>(evCells x.1 x.2)[j]?).getD undef) (by rw [← hll];exact hl) (fun r hr=>?_) (fun _=>rfl) (fun i r j av hr hav=>?_) (fun i r j av hr hav=>?_)
  ·obtain ⟨x,_,rfl⟩:=List.mem_map.1 hr;rfl
  ·obtain ⟨x,u,h1,h2,h3,h4,_⟩:=key i r j av hr hav
   simp only [h1,Option.bind_some,h2,Option.getD_some]
   exact ⟨h3,h4⟩
  ·obtain ⟨x,u,h1,h2,_,_,h5⟩:=key i r j av hr hav
   simp only [h1,Option.bind_some,h2,Option.getD_some]
   exact h5
theorem open_piece_rp {r:Reach} {b0:Nat} {v:Value} {d:DataW H} {p:List MemPlace} (hv:Value.okWide Tryz.prog w r b0 28 v) (h:DataW.Trod enc Tryz.prog w base spare held 28 v d p) :
  ∃ pc:Pce,RP (fun q=>w.cell? q) (ePce pc) v:=by
 obtain ⟨cs,rfl,hsz⟩:=okWide_struct Tryz.underlying28 hv
 obtain ⟨l⟩:=cs
 match l,hsz.trans cellsPiece with
 | [c0,c1,c2],_ =>
  obtain ⟨fuel,hf⟩:=h
  obtain ⟨ys,n2,_,_,_,hys,hg⟩:=DataW.trod_struct Tryz.underlying28 (by simpa [Value.cells] using hf:DataW.trod enc Tryz.prog w base spare held fuel 28 [c0,c1,c2]=some (d,p))
  have f0:DataW.trod enc Tryz.prog w base spare held n2 25 [c0,c1]=ys[0]?:=by simpa [cellsInstrument] using hg 0 _ rfl
  have f1:DataW.trod enc Tryz.prog w base spare held n2 26 [c2]=ys[1]?:=by simpa [cellsEvents] using hg 1 _ rfl
  obtain ⟨y0,hy0⟩:∃ y,ys[0]?=some y:=⟨_,List.getElem?_eq_getElem (by rw [hys];decide)⟩
  obtain ⟨y1,hy1⟩:∃ y,ys[1]?=some y:=⟨_,List.getElem?_eq_getElem (by rw [hys];decide)⟩
  rw [hy0] at f0;rw [hy1] at f1
  obtain ⟨zs,n3,_,_,_,hzs,hz⟩:=DataW.trod_struct Tryz.underlying25 f0
  have g0:DataW.trod enc Tryz.prog w base spare held n3 22 [c0]=zs[0]?:=by simpa [cellsCourses] using hz 0 _ rfl
  have g1:DataW.trod enc Tryz.prog w base spare held n3 23 [c1]=zs[1]?:=by simpa [cellsInts] using hz 1 _ rfl
  obtain ⟨z0,hz0⟩:∃ y,zs[0]?=some y:=⟨_,List.getElem?_eq_getElem (by rw [hzs];decide)⟩
  obtain ⟨z1,hz1⟩:∃ y,zs[1]?=some y:=⟨_,List.getElem?_eq_getElem (by rw [hzs];decide)⟩
  rw [hz0] at g0;rw [hz1] at g1
  obtain ⟨A1,A2,k1,k2,cs,st,rfl,rfl,l1,l2,hI⟩:=open_ins f0
  obtain ⟨evs,hE⟩:=open_events_rp f1
  have hc1:=cap_of_trod Tryz.underlying22 g0
  have hc2:=cap_of_trod Tryz.underlying23 g1
  refine ⟨⟨cs,st,evs⟩,.ag _ _ rfl fun i av u a b=>?_⟩
  match i with
  | 0=>cases a;cases b;exact rp_mem hI.1 hc1 (fun _=>rfl) eCrs_of
  | 1=>cases a;cases b;exact rp_mem hI.2 hc2 (fun _=>rfl) eInt_of
  | 2=>cases a;cases b;exact hE
  | i+3=>simp at a
end
end Go.Proofs.YtgelfflighgajaaGreatDoor
namespace Go.Proofs.YtgelfflighgajaaGreatDoor
open Go.RowKit
section
variable {P:Program} {C:Cx} {σ:St}
theorem OW.nil_ (F:View) (w:World) (T n:Nat) (φ:Nat→Prop):OW F w (.ow T n []) (.slice none 0 0) φ :=
 RowIs.ow ⟨by simp,[],fun _ _ _=>False,⟨by simp,.inl ⟨rfl,rfl⟩⟩,rfl,by simp,(fun g hg=>by cases hg),fun _ _ _ h=>h.elim,fun _ _ _ _ _ h=>h.elim,fun i r r' h=>by simp at h,fun i r r' j av u h=>by simp at h⟩
theorem Tr.nilOw (k:Nat) {T m:Nat} (T' n':Nat) (hk:look k σ.M=some (.row T 1 (List.replicate m [.sc (.slice none 0 0)]))):Tr C σ (σ.upd k (.rwn T 1 (List.replicate m [.ow T' n' []]))):=fun G a w ok=>by
 obtain ⟨g1,g2,g3,g4,q1,vs,Φ,q2,q3,q4,q5,q6,q7,q8,q9⟩:=ok.ob k _ hk
 refine ⟨G,ok.reob hk ⟨g1,trivial,g3,g4,?_⟩⟩
 have hat:∀ i r,(List.replicate m [AV.ow T' n' []])[i]?=some r→r=[AV.ow T' n' []]∧(List.replicate m [AV.sc (.slice none 0 0)])[i]?=some [AV.sc (.slice none 0 0)]:=fun i r h=>by
  obtain ⟨hl,he⟩:=List.getElem?_eq_some_iff.1 h
  rw [List.getElem_replicate]at he
  have hl2:i<m:=by simpa using hl
  exact ⟨he.symm,by rw [List.getElem?_replicate,if_pos hl2]⟩
 refine ⟨fun r hr=>by rw [List.eq_of_mem_replicate hr];rfl,vs,Φ,q2,by rw [q3];simp,q4,q5,q6,q7,fun i r v hr hv=>?_,fun i r v j av u hr hv hj hu=>?_⟩
 ·obtain ⟨rfl,h2⟩:=hat i r hr
  have:=q8 i _ v h2 hv
  exact this
 ·obtain ⟨rfl,h2⟩:=hat i r hr
  match j,hj with
  | 0,hj =>
   cases hj
   have:=(q9 i _ v 0 _ u h2 hv rfl hu).sc_eq
   rw [this];exact OW.nil_ _ _ _ _ _
  | j+1,hj=>simp at hj
def ldaV (P:Program)(σ:St):Op→Option (TypeId×List (List AV)×Nat×Nat)
 | .load T x =>
  match σ.ev x with
  | some (.pt k i j) =>
   match look k σ.M with
   | some (.row _ _ rows)=>some (T,rows,i,j)
   | some (.rwn _ _ rows)=>some (T,rows,i,j)
   | _=>none
  | _=>none
 | _=>none
theorem ldaV_of {o:Oper} {T:TypeId} {rows:List (List AV)} {i j:Nat} {r:List AV} {av:AV} (h:ldaV P σ o.op=some (T,rows,i,j))(hi:rows[i]?=some r)(ht:takeO P T (r.drop j)=some av):WV P C o σ av:=by
 unfold ldaV at h
 split at h
 ·rename_i T' x ho
  split at h
  ·rename_i k i' j' hx
   split at h
   ·rename_i T2 n rows' hk
    cases h
    have hf:(AO.row T2 n rows).from_ i j=some (r.drop j):=by simp [AO.from_,hi]
    exact loadV_of ho hx (by simp only [loadV,hk,hf];exact ht)
   ·rename_i T2 n rows' hk
    cases h
    have hf:(AO.rwn T2 n rows).from_ i j=some (r.drop j):=by simp [AO.from_,hi]
    exact loadV_of ho hx (by simp only [loadV,hk,hf];exact ht)
   ·cases h
  ·cases h
 ·cases h
variable {ops:Array Oper} {o:Oper} {rest:List Oper} {d:Tmp} {Q:Exit→St→Prop}
theorem WL.lda {T:TypeId} {rows:List (List AV)} {i j:Nat} {r:List AV} {av:AV} (hd:dstB C.N o=some d)(h:ldaV P σ o.op=some (T,rows,i,j))(hi:rows[i]?=some r)(ht:takeO P T (r.drop j)=some av)(k:WL P C ops rest (σ.put d av) Q):WL P C ops (o::rest) σ Q:=WL.vl hd (ldaV_of h hi ht) k
end
end Go.Proofs.YtgelfflighgajaaGreatDoor
namespace Go.Proofs.YtgelfflighgajaaGreatDoor
open Go.RowKit
theorem pSysName_bad (s:Int) (hs:¬ (1≤s∧s≤4)):Ctr Tryz.prog 69 [.sc (.int .u8 s)] (.tu [.sc (.string (bs [])),.sc (.int .i64 30)]):=by
 have h:=of_FS s
 rw [decide_eq_false hs] at h
 refine Ctr.intro Tryz.func69 rfl Tryz.ntmps69 (Nat.le_of_ble_eq_true rfl) (bd_all rfl) fun w0 F0=>?_;dsimp only [St.init,number,Nat.reduceAdd]
 repeat refine W.go rfl ?_
 refine (?_:WL _ _ _ _ _ _)
 refine WL.vl rfl (WV.call rfl (callF Tryz.func122 rfl rfl) rfl rfl h) ?_
 repeat (first|refine W.gob rfl ?_|refine WL.nil ?_|refine WL.e1 rfl ?_|refine W.condT rfl ?_)
 refine (?_:W _ _ _ _ _)
 exact W.ret (fin2 rfl rfl rfl rfl rfl rfl rfl)
theorem pSysName_ok (s:Int) (hs:1≤s∧s≤4):Ctr Tryz.prog 69 [.sc (.int .u8 s)] (.tu [.sc (.string (bs (snmT s))),.sc (.int .i64 0)]):=by
 have h:=of_FS s
 rw [decide_eq_true hs] at h
 have hnm:=name_FS s hs
 refine Ctr.intro Tryz.func69 rfl Tryz.ntmps69 (Nat.le_of_ble_eq_true rfl) (bd_all rfl) fun w0 F0=>?_;dsimp only [St.init,number,Nat.reduceAdd]
 repeat refine W.go rfl ?_
 refine (?_:WL _ _ _ _ _ _)
 refine WL.vl rfl (WV.call rfl (callF Tryz.func122 rfl rfl) rfl rfl h) ?_
 repeat (first|refine W.gob rfl ?_|refine WL.nil ?_|refine WL.e1 rfl ?_|refine W.condF rfl ?_)
 refine (?_:WL _ _ _ _ _ _)
 refine WL.vl rfl (WV.sys hs nameF rfl rfl (fun vs w=>by kernel_rfl) (fun vs w=>by kernel_rfl) (fun vs w=>by kernel_rfl) (fun vs w=>by kernel_rfl) rfl rfl hnm) ?_
 repeat (first|refine WL.nil ?_|refine WL.e1 rfl ?_)
 refine (?_:W _ _ _ _ _)
 exact W.ret (fin2 rfl rfl rfl rfl rfl rfl rfl)
theorem ed_sys {s:Int} {p:Pce} {key:Int} (h:¬ (1≤s∧s≤4)):edX s p key=30∧edT s p key=[]:=by
 have:edX s p key=30:=if_neg h
 exact⟨this,by unfold edT;rw [this];rfl⟩
theorem ed_eng {s:Int} {p:Pce} {key:Int} (h:1≤s∧s≤4)(h2:engX p key≠0):edX s p key=engX p key∧edT s p key=[]:=by
 have:edX s p key=engX p key:=by unfold edX;rw [if_pos h,if_pos h2]
 exact⟨this,by unfold edT;rw [this,if_neg h2]⟩
theorem ed_no {s:Int} {p:Pce} {key:Int} (h:1≤s∧s≤4)(h2:engX p key=0)(h3:lksR s p≠[]):edX s p key=31∧edT s p key=[]:=by
 have:edX s p key=31:=by unfold edX;rw [if_pos h,if_neg (by simp [h2]),if_neg h3]
 exact⟨this,by unfold edT;rw [this];rfl⟩
theorem ed_ok {s:Int} {p:Pce} {key:Int} (h:1≤s∧s≤4) (h2:engX p key=0) (h3:lksR s p=[]):edX s p key=0∧edT s p key=edB s p (mea p.evs p.evs.length) (engL p key) p.evs.length:=by
 have:edX s p key=0:=by unfold edX;rw [if_pos h,if_neg (by simp [h2]),if_pos h3]
 exact ⟨this,by unfold edT;rw [this];rfl⟩
theorem pEdition_G1 (s:Int) (p:Pce) (hO:PcOk p) (key:Int) (hne:0 < p.evs.length):Ctg tabB Tryz.prog 50 [ePce p,.sc (.int .i64 key),.sc (.int .u8 s)] (.tu [.sc (.string (bs (edT s p key))),.sc (.int .i64 (edX s p key))]):=by
 have hn3:=hO.n3
 by_cases hs:1≤s∧s≤4
 rotate_left
 ·rw [(ed_sys hs).1,(ed_sys hs).2]
  refine Ctg.intro stabB Tryz.func50 rfl Tryz.ntmps50 (Nat.le_of_ble_eq_true rfl) (bd_all rfl) fun w0 F0 hB=>?_;dsimp only [St.init,number,Nat.reduceAdd]
  repeat refine W.go rfl ?_
  refine (?_:WL _ _ _ _ _ _)
  refine WL.vl rfl (WV.call rfl (callF Tryz.func69 rfl rfl) rfl rfl (pSysName_bad s hs)) ?_
  repeat (first|refine W.gob rfl ?_|refine WL.nil ?_|refine WL.nt rfl rfl rfl z53o ?_|refine WL.e1 rfl ?_|refine W.condT rfl ?_)
  refine (?_:W _ _ _ _ _)
  exact W.ret (fin2 rfl rfl rfl rfl rfl rfl rfl)
 have hE:=pEngrave_FS p hO key
 by_cases hx:engX p key=0
 rotate_left
 ·rw [(ed_eng hs hx).1,(ed_eng hs hx).2]
  obtain ⟨E,hEq⟩:∃ E,engX p key=E:=⟨_,rfl⟩
  rw [hEq] at hx hE ⊢
  refine Ctg.intro stabB Tryz.func50 rfl Tryz.ntmps50 (Nat.le_of_ble_eq_true rfl) (bd_all rfl) fun w0 F0 hB=>?_;dsimp only [St.init,number,Nat.reduceAdd]
  repeat refine W.go rfl ?_
  refine (?_:WL _ _ _ _ _ _)
  refine WL.vl rfl (WV.call rfl (callF Tryz.func69 rfl rfl) rfl rfl (pSysName_ok s hs)) ?_
  repeat (first|refine W.gob rfl ?_|refine WL.nil ?_|refine WL.nf rfl rfl rfl z53o ?_|refine WL.e1 rfl ?_|refine W.condF rfl ?_)
  refine (?_:WL _ _ _ _ _ _)
  refine WL.vl rfl (WV.callG hB rfl (callF Tryz.func110 rfl rfl) rfl rfl hE) ?_
  repeat (first|refine W.gob rfl ?_|refine WL.nil ?_|refine WL.nt rfl rfl rfl z53o ?_|refine WL.e1 rfl ?_|refine W.condT rfl ?_)
  refine (?_:W _ _ _ _ _)
  exact W.ret (fin2 rfl rfl rfl rfl rfl rfl rfl)
 obtain ⟨h0,hsf,hsl⟩:=engL_ok hO hx
 have hlE:=(lks_ok hs h0).2
 have hlR:=(lks_ok hs h0).1
 have hc:=pCan_FS s p hO
 rw [hlE] at hc
 rw [hx] at hE
 by_cases hl:lksR s p=[]
 rotate_left
 ·rw [(ed_no hs hx hl).1,(ed_no hs hx hl).2]
  have hb:((0:Int) == 0 && ((lksR s p).length:Int) == 0)=false:=by
   have:(lksR s p).length≠0:=fun h=>hl (List.eq_nil_of_length_eq_zero h)
   simp;omega
  rw [hb] at hc
  refine Ctg.intro stabB Tryz.func50 rfl Tryz.ntmps50 (Nat.le_of_ble_eq_true rfl) (bd_all rfl) fun w0 F0 hB=>?_;dsimp only [St.init,number,Nat.reduceAdd]
  repeat refine W.go rfl ?_
  refine (?_:WL _ _ _ _ _ _)
  refine WL.vl rfl (WV.call rfl (callF Tryz.func69 rfl rfl) rfl rfl (pSysName_ok s hs)) ?_
  repeat (first|refine W.gob rfl ?_|refine WL.nil ?_|refine WL.nf rfl rfl rfl z53o ?_|refine WL.e1 rfl ?_|refine W.condF rfl ?_)
  refine (?_:WL _ _ _ _ _ _)
  refine WL.vl rfl (WV.callG hB rfl (callF Tryz.func110 rfl rfl) rfl rfl hE) ?_
  repeat (first|refine W.gob rfl ?_|refine WL.nil ?_|refine WL.nf rfl rfl rfl z53o ?_|refine WL.e1 rfl ?_|refine W.condF rfl ?_)
  refine (?_:WL _ _ _ _ _ _)
  refine WL.vl rfl (WV.call rfl (callF Tryz.func70 rfl rfl) rfl rfl hc) ?_
  repeat (first|refine W.gob rfl ?_|refine WL.nil ?_|refine WL.e1 rfl ?_|refine W.condT rfl ?_)
  refine (?_:W _ _ _ _ _)
  exact W.ret (fin2 rfl rfl rfl rfl rfl rfl rfl)
 rw [(ed_ok hs hx hl).1,(ed_ok hs hx hl).2]
 have hb:((0:Int) == 0 && ((lksR s p).length:Int) == 0)=true:=by rw [hl];rfl
 rw [hb] at hc
 have hOn:=pOnsets_FS p hO
 rw [if_pos h0,h0] at hOn
 have hMe:=pMeasures_FS p hO
 have e4:meaR p=mea p.evs p.evs.length:=if_pos h0
 rw [e4,h0] at hMe
 have hml:=mea_length p.evs p.evs.length
 have hmb:=mea_bd p.evs p.evs.length
 have hol:=onsL_length p.evs p.evs.length
 have hnil:∀ i (h:i < p.evs.length),lackE s p i p.evs[i]=[]:=fun i h=>lksTo_none p.evs.length (Nat.le_refl _) (by rw [← hlR];exact hl) i h h
 have hMh:∃ x r,mea p.evs p.evs.length=x::r∧x.1=0:=by
  obtain ⟨n,hn⟩:∃ n,p.evs.length=n+1:=⟨p.evs.length - 1,by omega⟩
  rw [hn];exact mea_head p.evs n
 obtain ⟨MS,hMS⟩:∃ L,mea p.evs p.evs.length=L:=⟨_,rfl⟩
 obtain ⟨L,hL⟩:∃ L,engL p key=L:=⟨_,rfl⟩
 rw [hMS] at hMe hml hmb hMh ⊢
 rw [hL] at hE hsf hsl ⊢
 refine Ctg.intro stabB Tryz.func50 rfl Tryz.ntmps50 (Nat.le_of_ble_eq_true rfl) (bd_all rfl) fun w0 F0 hB=>?_;dsimp only [St.init,number,Nat.reduceAdd]
 repeat refine W.go rfl ?_
 refine (?_:WL _ _ _ _ _ _)
 refine WL.vl rfl (WV.call rfl (callF Tryz.func69 rfl rfl) rfl rfl (pSysName_ok s hs)) ?_
 repeat (first|refine W.gob rfl ?_|refine WL.nil ?_|refine WL.nf rfl rfl rfl z53o ?_|refine WL.e1 rfl ?_|refine W.condF rfl ?_)
 refine (?_:WL _ _ _ _ _ _)
 refine WL.vl rfl (WV.callG hB rfl (callF Tryz.func110 rfl rfl) rfl rfl hE) ?_
 repeat (first|refine W.gob rfl ?_|refine WL.nil ?_|refine WL.nf rfl rfl rfl z53o ?_|refine WL.e1 rfl ?_|refine W.condF rfl ?_)
 refine (?_:WL _ _ _ _ _ _)
 refine WL.vl rfl (WV.call rfl (callF Tryz.func70 rfl rfl) rfl rfl hc) ?_
 repeat (first|refine W.gob rfl ?_|refine WL.nil ?_|refine WL.e1 rfl ?_|refine W.condF rfl ?_)
 refine (?_:WL _ _ _ _ _ _)
 refine WL.vl rfl (WV.call rfl (callF Tryz.func111 rfl rfl) rfl rfl hOn) ?_
 repeat (first|refine W.gob rfl ?_|refine WL.nil ?_|refine WL.e1 rfl ?_)
 refine (?_:WL _ _ _ _ _ _)
 refine WL.vl rfl (WV.call rfl (callF Tryz.func112 rfl rfl) rfl rfl hMe) ?_
 repeat (first|refine W.gob rfl ?_|refine WL.nil ?_|refine WL.e1 rfl ?_|refine WL.len rfl rfl z53l ?_)
 refine (?_:W _ _ _ _ _)
 first|refine W.tr (Tr.bld 1 5 rfl) ?_|refine WL.tr (Tr.bld 1 5 rfl) ?_
 dsimp only [St.upd]
 refine (?_:W _ _ _ _ _)
 refine W.loop (fun k:Nat=>k≤p.evs.length∧mAt MS k≤MS.length∧(mAt MS k≠0→∃ x,MS[mAt MS k - 1]?=some x∧x.1≤k)∧(edB s p MS L k).length≤1300000*k) (fun k=>⟨[(2,.sc (.int .u8 s)),(3,.pt 0 0 0),(10,.ls 4 ((rsT L k).map eSf)),(12,.ls 1 ((onsL p.evs p.evs.length).map eInt)),(14,.ls 3 (MS.map eMea)),(16,.pt 1 0 0),(17,.sc (.int .i64 (mAt MS k:Nat))),(57,.ls 6 (p.evs.map eEv)),(58,.sc (.int .i64 p.evs.length)),(59,.sc (.int .i64 k))],[(0,.box 28 (ePce p).cells),(1,.bld 109 5 (edB s p MS L k))],2⟩) (fun k=>p.evs.length - k) 0 ⟨by omega,Nat.zero_le _,fun h=>absurd rfl h,by simp [edB]⟩ (z53t id) fun k hk=>?_
 obtain ⟨hk1,hmL,hmF,hBl⟩:=hk
 by_cases hlt:k < p.evs.length
 rotate_left
 ·obtain rfl:k=p.evs.length:=by omega
  have hBn:edB s p MS L p.evs.length≠[]:=by
   obtain ⟨n,hn⟩:∃ n,p.evs.length=n+1:=⟨p.evs.length - 1,by omega⟩
   rw [hn]
   unfold edB
   rw [edN_at (by omega)]
   unfold edR
   simp
  repeat (first|refine W.gob rfl ?_|refine WL.nil ?_|refine WL.bf rfl rfl rfl z53o ?_|refine W.condF rfl ?_)
  refine (?_:WL _ _ _ _ _ _)
  refine WL.bs rfl rfl rfl (callF Tryz.func59 rfl rfl) bldS_ok hBn ?_
  repeat (first|refine WL.nil ?_|refine WL.e1 rfl ?_)
  refine (?_:W _ _ _ _ _)
  exact W.ret (fin2 rfl rfl rfl rfl rfl rfl rfl)
 obtain ⟨ev,hev⟩:∃ e,p.evs[k]=e:=⟨_,rfl⟩
 have hcx:=colX_ok hs z53o hlt (hnil k hlt)
 have hcol:=pColumn_FS s p hO k
 rw [hcx.1,hcx.2] at hcol
 have hcl:=colS_len hs hO h0 k hlt
 have hNk:=edN_at (s:=s) (p:=p) (MS:=MS) (L:=L) hlt
 rw [hev] at hcol hcl hNk
 repeat (first|refine W.gob rfl ?_|refine WL.nil ?_|refine WL.bt rfl rfl rfl z53o ?_|refine WL.e1 rfl ?_|refine WL.idx rfl rfl z53o (by first|exact map_at z53o|exact map_atZ z53o z53o) ?_|refine W.condT rfl ?_)
 refine (?_:W _ _ _ _ _)
 rw [hev]
 obtain ⟨B,hBq⟩:∃ B,edB s p MS L k=B:=⟨_,rfl⟩
 have hBs:edB s p MS L (k+1)=B++edN s p MS L k:=by rw [← hBq];rfl
 rw [hBq] at hBl ⊢
 refine W.loop (fun m:Nat=>m≤MS.length∧nextF MS k (mAt MS k)=nextF MS k m∧(m≠0→∃ x,MS[m - 1]?=some x∧x.1≤k)) (fun m=>⟨[(2,.sc (.int .u8 s)),(3,.pt 0 0 0),(10,.ls 4 ((rsT L k).map eSf)),(12,.ls 1 ((onsL p.evs p.evs.length).map eInt)),(14,.ls 3 (MS.map eMea)),(16,.pt 1 0 0),(17,.sc (.int .i64 (m:Nat))),(18,.sc (.int .i64 k)),(19,.pt 2 0 0),(57,.ls 6 (p.evs.map eEv)),(58,.sc (.int .i64 p.evs.length)),(59,.sc (.int .i64 k))],[(0,.box 28 (ePce p).cells),(1,.bld 109 5 B),(2,.box 36 (eEv ev))],3⟩) (fun m=>MS.length - m) (mAt MS k) ⟨hmL,rfl,hmF⟩ (z53t id) fun m hm=>?_
 obtain ⟨hm1,hm3,hm4⟩:=hm
 by_cases hgo:∃ h:m < MS.length,MS[m].1≤k
 ·obtain ⟨h1,h2⟩:=hgo
  repeat (first|refine W.gob rfl ?_|refine WL.nil ?_|refine WL.bt rfl rfl rfl z53o ?_|refine WL.e1 rfl ?_|refine WL.gyes rfl rfl rfl rfl ?_|refine WL.ar rfl rfl (by unfold I64;omega) ?_|refine WL.len rfl rfl z53l ?_|refine WL.idx rfl rfl z53o (by first|exact map_at z53o|exact map_atZ z53o z53o) ?_|refine W.condT rfl ?_)
  refine ⟨m+1,⟨by omega,hm3.trans (nextF_step h1 h2),fun _=>⟨MS[m],by simp [h1],h2⟩⟩,by omega,?_⟩
  exact (z53t id)
 have hm0:m≠0:=fun h=>by
  obtain ⟨y,r,hy1,hy2⟩:=hMh
  subst hy1 h
  exact hgo ⟨by simp,by show y.1≤_;omega⟩
 obtain ⟨x,hx1,hx2⟩:=hm4 hm0
 have hmA:mAt MS (k+1)=m:=by
  show nextF MS k (mAt MS k)=m
  rw [hm3]
  by_cases h:m < MS.length
  ·exact nextF_no h (fun h2=>hgo ⟨h,h2⟩)
  ·exact nextF_end z53o
 have hxb:=(hmb x (List.mem_of_getElem? hx1)).1
 refine W.seq ?_
 refine W.seqM ⟨[(76,.sc (.bool false)),(2,.sc (.int .u8 s)),(3,.pt 0 0 0),(10,.ls 4 ((rsT L k).map eSf)),(12,.ls 1 ((onsL p.evs p.evs.length).map eInt)),(14,.ls 3 (MS.map eMea)),(16,.pt 1 0 0),(17,.sc (.int .i64 (m:Nat))),(18,.sc (.int .i64 k)),(19,.pt 2 0 0),(57,.ls 6 (p.evs.map eEv)),(58,.sc (.int .i64 p.evs.length)),(59,.sc (.int .i64 k))],[(0,.box 28 (ePce p).cells),(1,.bld 109 5 B),(2,.box 36 (eEv ev))],3⟩ ?_ ?_
 ·have hno:MS.length≤m∨(∃ h:m < MS.length,¬ MS[m].1≤k):=by
   by_cases h:m < MS.length
   ·exact .inr ⟨h,fun h2=>hgo ⟨h,h2⟩⟩
   ·exact .inl z53o
  rcases hno with h|⟨h1,h2⟩
  all_goals
   repeat (first|refine W.gob rfl ?_|refine WL.nil ?_|refine WL.bt rfl rfl rfl z53o ?_|refine WL.bf rfl rfl rfl z53o ?_|refine WL.e1 rfl ?_|refine WL.gyes rfl rfl rfl rfl ?_|refine WL.opno rfl rfl rfl rfl rfl rfl rfl ?_|refine WL.len rfl rfl z53l ?_|refine WL.idx rfl rfl z53o (by first|exact map_at z53o|exact map_atZ z53o z53o) ?_)
   refine (?_:Tr _ _ _)
   exact (z53t id)
 repeat (first|refine W.go rfl ?_|refine W.condF rfl ?_)
 refine (?_:W _ _ _ _ _)
 obtain ⟨t0,ht0⟩:∃ t:List UInt8,(if ev.tie=true then [126] else [37])=t:=⟨_,rfl⟩
 have ht0l:t0.length≤1:=by rw [← ht0];split<;>simp
 refine W.meet ⟨[(20,.sc (.string (bs t0))),(2,.sc (.int .u8 s)),(3,.pt 0 0 0),(10,.ls 4 ((rsT L k).map eSf)),(12,.ls 1 ((onsL p.evs p.evs.length).map eInt)),(14,.ls 3 (MS.map eMea)),(16,.pt 1 0 0),(17,.sc (.int .i64 (m:Nat))),(18,.sc (.int .i64 k)),(19,.pt 2 0 0),(57,.ls 6 (p.evs.map eEv)),(58,.sc (.int .i64 p.evs.length)),(59,.sc (.int .i64 k))],[(0,.box 28 (ePce p).cells),(1,.bld 109 5 B),(2,.box 36 (eEv ev))],3⟩ ?_ ?_
 ·(refine W.cond rfl (fun hif=>?_) (fun hif=>?_)<;>(try simp only [decide_eq_true_eq,decide_eq_false_iff_not,Int.not_lt,Int.not_le,Bool.not_eq_true',Bool.not_eq_false'] at hif))
  ·have hif2:ev.tie=true:=hif
   rw [if_pos hif2] at ht0
   subst ht0
   repeat refine W.go rfl ?_
   refine (?_:Tr _ _ _)
   exact (z53t id)
  ·have hif2:¬ ev.tie=true:=by simpa using hif
   rw [if_neg hif2] at ht0
   subst ht0
   repeat refine W.go rfl ?_
   refine (?_:Tr _ _ _)
   exact (z53t id)
 repeat refine W.go rfl ?_
 refine (?_:W _ _ _ _ _)
 refine W.tr (Tr.nil (t:=21) 9 1 rfl rfl) ?_
 dsimp only [St.put,St.new,St.upd,Nat.reduceAdd]
 obtain ⟨rs,hrs⟩:∃ r,rsT L k=r:=⟨_,rfl⟩
 have hrsub:=rsT_sub L k
 rw [hrs] at hrsub ⊢
 refine W.loop (fun q:Nat=>q≤rs.length∧∀ y∈rs.take q,y.1=(k:Int)) (fun q=>⟨[(20,.sc (.string (bs t0))),(21,.sl 3),(2,.sc (.int .u8 s)),(3,.pt 0 0 0),(10,.ls 4 ((rs.drop q).map eSf)),(12,.ls 1 ((onsL p.evs p.evs.length).map eInt)),(14,.ls 3 (MS.map eMea)),(16,.pt 1 0 0),(17,.sc (.int .i64 (m:Nat))),(18,.sc (.int .i64 k)),(19,.pt 2 0 0),(57,.ls 6 (p.evs.map eEv)),(58,.sc (.int .i64 p.evs.length)),(59,.sc (.int .i64 k))],[(0,.box 28 (ePce p).cells),(1,.bld 109 5 B),(2,.box 36 (eEv ev)),(3,.row 9 1 (((rs.take q).map sfT).map eStr))],4⟩) (fun q=>rs.length - q) 0 ⟨Nat.zero_le _,by simp⟩ (z53t id) fun q hq=>?_
 obtain ⟨hq1,hq2⟩:=hq
 obtain ⟨R,hR⟩:∃ R,rs.drop q=R:=⟨_,rfl⟩
 have hRl:R.length=rs.length - q:=by rw [← hR,List.length_drop]
 by_cases hgo2:∃ y r,R=y::r∧y.1=(k:Int)
 ·obtain ⟨y,r,rfl,hy⟩:=hgo2
  have hqq:q < rs.length:=by simp only [List.length_cons] at hRl;omega
  have hcons:=List.drop_eq_getElem_cons hqq
  rw [hR] at hcons
  obtain ⟨hy1,hr1⟩:=List.cons.inj hcons
  have htk:=List.take_succ_eq_append_getElem hqq
  rw [← hy1] at htk
  have hySf:SfOk y:=hsf y (hrsub.1 y (by rw [hy1];exact List.getElem_mem hqq))
  have hrow:((rs.take q).map sfT).map eStr++[eStr (sfT y)]=((rs.take (q+1)).map sfT).map eStr:=by rw [htk];simp
  have hpr:prt (eSf y::r.map eSf) 1 ((eSf y::r.map eSf).length:Nat)=r.map eSf:=by unfold prt;simp;rw [List.take_of_length_le (by simp)]
  have hst:=staffed_G y hySf
  have hlc:(eSf y::r.map eSf).length=r.length+1:=by simp
  have hrowl:(rs.take q).length=q:=by rw [List.length_take];omega
  have hrlen:rs.length≤8400:=by omega
  rw [hR,List.map_cons]
  repeat (first|refine W.gob rfl ?_|refine WL.bt rfl rfl rfl z53o ?_|refine WL.e1 rfl ?_|refine WL.gyes rfl rfl rfl rfl ?_|refine WL.len rfl rfl z53l ?_)
  refine (?_:WL _ _ _ _ _ _)
  refine WL.idx rfl rfl (by decide) (r:=eSf y) rfl ?_
  repeat (first|refine W.gob rfl ?_|refine WL.nil ?_|refine WL.bt rfl rfl rfl z53o ?_|refine WL.e1 rfl ?_|refine WL.gyes rfl rfl rfl rfl ?_|refine W.condT rfl ?_)
  refine (?_:WL _ _ _ _ _ _)
  refine WL.idx rfl rfl (by decide) (r:=eSf y) rfl ?_
  repeat refine WL.e1 rfl ?_
  refine (?_:WL _ _ _ _ _ _)
  refine WL.vl rfl (WV.callG hB rfl (callF Tryz.func113 rfl rfl) rfl rfl hst) ?_
  repeat (first|refine W.gob rfl ?_|refine WL.nil ?_|refine WL.e1 rfl ?_|refine WL.app rfl rfl rfl (by first|omega|(simp;done)|(simp;omega)) ?_)
  refine (?_:WL _ _ _ _ _ _)
  refine WL.part_ rfl rfl ⟨by decide,by simp;omega,Int.le_refl _⟩ hpr ?_
  repeat (first|refine WL.nil ?_|refine WL.e1 rfl ?_)
  refine ⟨q+1,⟨by omega,fun z hz=>?_⟩,by omega,?_⟩
  ·rw [htk] at hz
   rcases List.mem_append.1 hz with hz|hz
   ·exact hq2 z hz
   ·rw [List.mem_singleton] at hz;rw [hz];exact hy
  rw [← hr1]
  exact (z53u (fun q=>bif Nat.beq q 3 then 5 else q) (by repeat (first|exact trivial|refine ⟨⟨?_,?_,?_⟩,?_⟩|rfl|exact congrArg (fun q=>some (AO.row _ _ q)) hrow)) rfl)
 have htd:=take_drop_while (f:=fun z:Sf=>decide (z.1=(k:Int))) hq1 (fun z hz=>by simpa using hq2 z hz) (fun h=>by
  have:=List.drop_eq_getElem_cons h
  rw [hR] at this
  simp only [decide_eq_false_iff_not]
  intro hz
  exact hgo2 ⟨_,_,this,hz⟩)
 have hnm:nmK L k=(rs.take q).map sfT:=by unfold nmK;rw [hrs,htd.1]
 have hrs1:rsT L (k+1)=R:=by
  show (rsT L k).dropWhile _=_
  rw [hrs,htd.2,hR]
 refine W.seq ?_
 refine W.seqM ⟨[(91,.sc (.bool false)),(20,.sc (.string (bs t0))),(21,.sl 3),(2,.sc (.int .u8 s)),(3,.pt 0 0 0),(10,.ls 4 (R.map eSf)),(12,.ls 1 ((onsL p.evs p.evs.length).map eInt)),(14,.ls 3 (MS.map eMea)),(16,.pt 1 0 0),(17,.sc (.int .i64 (m:Nat))),(18,.sc (.int .i64 k)),(19,.pt 2 0 0),(57,.ls 6 (p.evs.map eEv)),(58,.sc (.int .i64 p.evs.length)),(59,.sc (.int .i64 k))],[(0,.box 28 (ePce p).cells),(1,.bld 109 5 B),(2,.box 36 (eEv ev)),(3,.row 9 1 (((rs.take q).map sfT).map eStr))],4⟩ ?_ ?_
 ·have hno:R=[]∨(∃ y r,R=y::r∧¬ y.1=(k:Int)):=by
   cases hRc:R with
   | nil=>exact .inl rfl
   | cons y r=>exact .inr ⟨y,r,rfl,fun h=>hgo2 ⟨y,r,hRc,h⟩⟩
  rw [hR]
  rcases hno with h|⟨y,r,h1,h2⟩
  ·subst h
   rw [List.map_nil]
   repeat (first|refine W.gob rfl ?_|refine WL.nil ?_|refine WL.e1 rfl ?_|refine WL.opno rfl rfl rfl rfl rfl rfl rfl ?_|refine WL.len rfl rfl z53l ?_)
   refine (?_:Tr _ _ _)
   exact (z53t id)
  ·subst h1
   have hlc:(eSf y::r.map eSf).length=r.length+1:=by simp
   rw [List.map_cons]
   repeat (first|refine W.gob rfl ?_|refine WL.bt rfl rfl rfl z53o ?_|refine WL.e1 rfl ?_|refine WL.gyes rfl rfl rfl rfl ?_|refine WL.len rfl rfl z53l ?_)
   refine (?_:WL _ _ _ _ _ _)
   refine WL.idx rfl rfl (by decide) (r:=eSf y) rfl ?_
   repeat (first|refine WL.nil ?_|refine WL.bf rfl rfl rfl z53o ?_|refine WL.e1 rfl ?_|refine WL.gyes rfl rfl rfl rfl ?_)
   refine (?_:Tr _ _ _)
   exact (z53t id)
 have hrowl:(rs.take q).length=q:=by rw [List.length_take];omega
 have hrsl:rs.length≤8400:=by omega
 have hevl:=evT_len hsf hsl k ev
 have hjl:=join_len [43] (by simp) (nmK L k) (nmK_len hsf hsl k).2
 have hnl:=(nmK_len hsf hsl k).1
 have hJ:=joinS_FS [43] (nmK L k) z53o z53o
 have hevT:evT L k ev=if nmK L k=[] then t0 else Lib.join (nmK L k) [43]:=by unfold evT;rw [ht0]
 rw [← hnm]
 obtain ⟨nm,hnmq⟩:∃ z,nmK L k=z:=⟨_,rfl⟩
 rw [hnmq] at hjl hnl hJ hevT ⊢
 repeat (first|refine W.gob rfl ?_|refine WL.nil ?_|refine WL.e1 rfl ?_|refine WL.len rfl rfl z53l ?_|refine W.condF rfl ?_)
 refine (?_:W _ _ _ _ _)
 refine W.meet ⟨[(20,.sc (.string (bs (evT L k ev)))),(2,.sc (.int .u8 s)),(3,.pt 0 0 0),(10,.ls 4 (R.map eSf)),(12,.ls 1 ((onsL p.evs p.evs.length).map eInt)),(14,.ls 3 (MS.map eMea)),(16,.pt 1 0 0),(17,.sc (.int .i64 (m:Nat))),(18,.sc (.int .i64 k)),(19,.pt 2 0 0),(57,.ls 6 (p.evs.map eEv)),(58,.sc (.int .i64 p.evs.length)),(59,.sc (.int .i64 k))],[(0,.box 28 (ePce p).cells),(1,.bld 109 5 B),(2,.box 36 (eEv ev))],4⟩ ?_ ?_
 ·(refine W.cond rfl (fun hif=>?_) (fun hif=>?_)<;>(try simp only [decide_eq_true_eq,decide_eq_false_iff_not,Int.not_lt,Int.not_le,Bool.not_eq_true',Bool.not_eq_false'] at hif))
  ·have hn0:nm≠[]:=fun h=>by rw [h] at hif;simp at hif
   rw [hevT,if_neg hn0]
   obtain ⟨jt,hjt⟩:∃ z,Lib.join nm [43]=z:=⟨_,rfl⟩
   rw [hjt] at hJ ⊢
   repeat (first|refine W.gob rfl ?_|refine WL.e1 rfl ?_)
   refine (?_:WL _ _ _ _ _ _)
   refine WL.tr (Tr.freeze 3 rfl) ?_
   refine WL.vl rfl (WV.call rfl (callF Tryz.func114 rfl rfl) rfl rfl hJ) ?_
   repeat (first|refine WL.nil ?_|refine WL.e1 rfl ?_)
   refine (?_:Tr _ _ _)
   exact (z53t id)
  ·have hn0:nm=[]:=List.eq_nil_of_length_eq_zero (by first|omega|(simp at hif;omega)|(simpa using hif))
   rw [hevT,if_pos hn0]
   repeat refine W.gob rfl ?_
   refine (?_:Tr _ _ _)
   exact (z53t id)
 repeat (first|refine W.gob rfl ?_|refine WL.e1 rfl ?_)
 refine (?_:WL _ _ _ _ _ _)
 refine WL.vl rfl (WV.call rfl (callF Tryz.func115 rfl rfl) rfl rfl hcol) ?_
 repeat (first|refine W.gob rfl ?_|refine WL.nil ?_|refine WL.nf rfl rfl rfl z53o ?_|refine WL.e1 rfl ?_|refine W.condF rfl ?_)
 refine (?_:W _ _ _ _ _)
 have hoK:=onsAt_le p.evs k
 have hoF:=onsAt_le p.evs x.1.toNat
 have hm420:m≤420:=by omega
 have hMx:(MS.map eMea)[((m:Int) - 1).toNat]?=some (eMea x):=by
  rw [show ((m:Int) - 1).toNat=m - 1 by omega,List.getElem?_map,hx1];rfl
 have hok1:((onsL p.evs p.evs.length).map eInt)[((k:Nat):Int).toNat]?=some (eInt (onsAt p.evs k)):=by
  rw [Int.toNat_natCast,List.getElem?_map,onsL_at (by omega)];rfl
 have hok2:((onsL p.evs p.evs.length).map eInt)[x.1.toNat]?=some (eInt (onsAt p.evs x.1.toNat)):=by
  rw [List.getElem?_map,onsL_at (by omega)];rfl
 have hfst:fstK MS k=x.1.toNat:=by unfold fstK;rw [hmA,hx1];rfl
 have hsin:sinK p.evs MS k=onsAt p.evs k - onsAt p.evs x.1.toNat:=by unfold sinK;rw [hfst]
 have hR1:edN s p MS L k=Lib.itoa (m:Nat)++[58]++Lib.itoa (onsAt p.evs k - onsAt p.evs x.1.toNat)++[32]++evT L k ev++[32,59,32]++colS s p k ev++[10]:=by
  rw [hNk];unfold edR;rw [hsin,hmA]
 have hsI:I64 (onsAt p.evs k - onsAt p.evs x.1.toNat):=by unfold I64;omega
 have hI1:=itoa_G (m:Nat) (by unfold I64;omega)
 have hI2:=itoa_G _ hsI
 have hl1:=itoa_len (n:=(m:Nat)) z53o
 have hl2:=itoa_len (n:=onsAt p.evs k - onsAt p.evs x.1.toNat) z53o
 obtain ⟨oK,hoKq⟩:∃ z,onsAt p.evs k=z:=⟨_,rfl⟩
 obtain ⟨oF,hoFq⟩:∃ z,onsAt p.evs x.1.toNat=z:=⟨_,rfl⟩
 rw [hoKq] at hoK hok1 hR1 hI2 hl2
 rw [hoFq] at hoF hok2 hR1 hI2 hl2
 obtain ⟨a1,ha1⟩:∃ z,Lib.itoa (m:Nat)=z:=⟨_,rfl⟩
 obtain ⟨a2,ha2⟩:∃ z,Lib.itoa (oK - oF)=z:=⟨_,rfl⟩
 obtain ⟨et,het⟩:∃ z,evT L k ev=z:=⟨_,rfl⟩
 obtain ⟨co,hco⟩:∃ z,colS s p k ev=z:=⟨_,rfl⟩
 rw [ha1] at hI1 hl1 hR1
 rw [ha2] at hI2 hl2 hR1
 rw [het] at hevl hR1 ⊢
 rw [hco] at hcl hR1 ⊢
 have c1:(a1++[58]).length≤21:=by simp only [List.length_append,List.length_cons,List.length_nil];omega
 have c2:(a1++[58]++a2).length≤41:=by rw [List.length_append];omega
 have c3:(a1++[58]++a2++[32]).length≤42:=by rw [List.length_append];simp only [List.length_cons,List.length_nil];omega
 have c4:(a1++[58]++a2++[32]++et).length≤200042:=by rw [List.length_append];omega
 have c5:(a1++[58]++a2++[32]++et++[32,59,32]).length≤200045:=by rw [List.length_append];simp only [List.length_cons,List.length_nil];omega
 have c6:(a1++[58]++a2++[32]++et++[32,59,32]++co).length≤1200045:=by rw [List.length_append];omega
 have c7:(a1++[58]++a2++[32]++et++[32,59,32]++co++[10]).length≤1200046:=by rw [List.length_append];simp only [List.length_cons,List.length_nil];omega
 have hm3':1≤m:=by omega
 have hmL2:=Lib.hid hm1
 clear hol hm1 hm4 hm3
 refine W.drawK (by kernel_rfl) (by kernel_rfl) ?_
 repeat refine DK.st rfl ?_
 refine DK.idx rfl rfl z53o hok1 ?_
 repeat (first|refine DK.st rfl ?_|refine DK.ar rfl rfl (by unfold I64;omega) ?_)
 refine DK.idx rfl rfl z53o hMx ?_
 repeat refine DK.st rfl ?_
 refine DK.idx rfl rfl z53o hok2 ?_
 repeat (first|refine DK.st rfl ?_|refine DK.ar rfl rfl (by unfold I64;omega) ?_|refine DK.nil ?_)
 repeat (first|refine W.gob rfl ?_|refine WL.e1 rfl ?_)
 refine (?_:WL _ _ _ _ _ _)
 refine WL.vl rfl (WV.callG hB rfl (callF Tryz.func116 rfl rfl) rfl rfl hI1) ?_
 repeat (first|refine WL.e1 rfl ?_|refine WL.cat rfl rfl (by first|omega|(simp;done)|(simp;omega)) ?_)
 refine (?_:WL _ _ _ _ _ _)
 refine WL.vl rfl (WV.callG hB rfl (callF Tryz.func116 rfl rfl) rfl rfl hI2) ?_
 repeat (first|refine WL.e1 rfl ?_|refine WL.cat rfl rfl (by first|omega|(simp;done)|(simp;omega)) ?_)
 refine (?_:WL _ _ _ _ _ _)
 have hrow:B++(a1++[58]++a2++[32]++et++[32,59,32]++co++[10])=edB s p MS L (k+1):=by rw [hBs,hR1]
 have hBn:(edB s p MS L (k+1)).length≤1300000*(k+1):=by rw [← hrow,List.length_append];omega
 refine WL.bw rfl rfl rfl (callF Tryz.func58 rfl rfl) bldW_ok z53o hrow ?_
 repeat (first|refine W.gob rfl ?_|refine WL.nil ?_|refine WL.e1 rfl ?_|refine WL.ar rfl rfl (by unfold I64;omega) ?_)
 refine ⟨k+1,⟨by omega,by rw [hmA];exact hmL2,fun _=>⟨x,by rw [hmA];exact hx1,by omega⟩,hBn⟩,by omega,?_⟩
 rw [hrs1,hmA]
 exact (z53u (fun q=>q) (by repeat (first|exact trivial|refine ⟨⟨?_,?_,?_⟩,?_⟩|rfl|exact congrArg (fun q=>some (AO.row _ _ q)) (by first|rfl|(simp;done)|(simp [eInt];done)|(simp [eLk];done)))) rfl)
end Go.Proofs.YtgelfflighgajaaGreatDoor
namespace Go.Proofs.YtgelfflighgajaaGreatDoor
open Go.RowKit
theorem bldS0 (w:World) (b:Nat) (p:Value) (hbk:w.heap[b]?=some (.cells #[p,.slice none 0 0] 109 (0,0))) :
  Calls Tryz.prog 59 #[.pointer (some ⟨b,0,none⟩)] w fun e w'=>e=.returned (.string (bs []))∧w'=w.drew:=by
 have c1:w.drew.cell? ⟨b,1,none⟩=some (.slice none 0 0):=by
  have:w.drew.heap[b]?=some (.cells #[p,.slice none 0 0] 109 (0,0)):=hbk
  rw [Lib.cell_of_heap this];rfl
 have hUS:(Builtin.unsafeString_ #[202,3] 9 #[.pointer none,.int .i64 0]).run Tryz.prog w.drew=.ok (.string .empty) w.drew:=Lib.run_unsafeString_none _ _ _ _ _
 have hSD:(Builtin.unsafeSliceData_ #[57] 202 #[.slice none 0 0]).run Tryz.prog w.drew=.ok (.pointer none) w.drew:=Lib.run_unsafeSliceData_nil _ _ _ _ _
 have mixed:Tryz.prog.follows .mixedOrders=true:=by kernel_rfl
 go_enter Tryz.func59,Tryz.ntmps59
 go_wp2
 go_region_o
 all_goals (go_wp2;go_ret;exact ⟨rfl,rfl⟩)
theorem WV.box2 {P:Program} {C:Cx} {o:Oper} {σ:St} {f:FuncId} {k:Nat} {x:Operand} {ts:Array TypeId} {T:TypeId} {c1 c2 v:Value} (ho:o.op=.call { callee:=.value (.func f),args:=#[x],argTypes:=ts }) (hc:∀ vs w,(callFunc f vs).run P w=.ok (.enter f vs) w)
  (hx:σ.ev x=some (.pt k 0 0)) (hk:look k σ.M=some (.box T [.sc c1,.sc c2])) (h:∀ w b,w.heap[b]?=some (.cells #[c1,c2] T (0,0))→Calls P f #[.pointer (some ⟨b,0,none⟩)] w fun e w'=>e=.returned v∧w'=w.drew):WV P C o σ (.sc v):=by
 intro G a w ok N Q' hN
 obtain ⟨p,ep,p1,p2,p3⟩:=(ok.evr hx).2.pt_of
 obtain ⟨h1,cs,Φ,hB,hsz,_,_,hcs⟩:=(ok.ob k _ hk).2.2
 obtain rfl:=addr_eq p1 p2 p3
 rw [Nat.zero_mul] at ep
 have hsz:cs.size=2:=hsz
 have g:∀ i (h:i<2),cs[i]?=some (cs[i]'(by omega)):=fun i h=>Array.getElem?_eq_getElem (by omega)
 have e1:=(CR.r (hcs 0 _ _ rfl (g 0 z53o)) rfl).sc_eq
 have e2:=(CR.r (hcs 1 _ _ rfl (g 1 z53o)) rfl).sc_eq
 have ecs:cs=#[c1,c2]:=by
  apply Array.ext (by simp [hsz])
  intro i hi hi2
  match i,(show i<2 by omega) with
  | 0,_=>exact e1
  | 1,_=>exact e2
 subst ecs
 unfold Oper.wp execOp
 have ev:a.eval (.func f)=.func (.func f) #[] #[]:=rfl
 have e3:(#[]++(#[x]:Array Operand).map a.eval++#[]:Array Value)=#[.pointer (some ⟨G.b k,0,none⟩)]:=by simp [ep]
 simp only [ho,resolve,ev,Deferred.ofValue,invoke,Sem.run_bind,Sem.run_pure,Result.andThen_ok,hc,Oper.upon,e3]
 refine (h w (G.b k) hB).mono fun e w1 ⟨he,hw⟩=>?_
 subst he hw
 exact hN _ G _ (fun σ'' a'' ok''=>ok''.drew) (.pu _ _ (.sc _)) (.sc _)
end Go.Proofs.YtgelfflighgajaaGreatDoor
namespace Go.Proofs.YtgelfflighgajaaGreatDoor
open Go.RowKit
theorem pEdition_G0 (s:Int) (p:Pce) (hO:PcOk p) (key:Int) (hne:p.evs.length=0):Ctg tabB Tryz.prog 50 [ePce p,.sc (.int .i64 key),.sc (.int .u8 s)] (.tu [.sc (.string (bs (edT s p key))),.sc (.int .i64 (edX s p key))]):=by
 have hn3:=hO.n3
 by_cases hs:1≤s∧s≤4
 rotate_left
 ·rw [(ed_sys hs).1,(ed_sys hs).2]
  refine Ctg.intro stabB Tryz.func50 rfl Tryz.ntmps50 (Nat.le_of_ble_eq_true rfl) (bd_all rfl) fun w0 F0 hB=>?_;dsimp only [St.init,number,Nat.reduceAdd]
  repeat refine W.go rfl ?_
  refine (?_:WL _ _ _ _ _ _)
  refine WL.vl rfl (WV.call rfl (callF Tryz.func69 rfl rfl) rfl rfl (pSysName_bad s hs)) ?_
  repeat (first|refine W.gob rfl ?_|refine WL.nil ?_|refine WL.nt rfl rfl rfl z53o ?_|refine WL.e1 rfl ?_|refine W.condT rfl ?_)
  refine (?_:W _ _ _ _ _)
  exact W.ret (fin2 rfl rfl rfl rfl rfl rfl rfl)
 have hE:=pEngrave_FS p hO key
 by_cases hx:engX p key=0
 rotate_left
 ·rw [(ed_eng hs hx).1,(ed_eng hs hx).2]
  obtain ⟨E,hEq⟩:∃ E,engX p key=E:=⟨_,rfl⟩
  rw [hEq] at hx hE ⊢
  refine Ctg.intro stabB Tryz.func50 rfl Tryz.ntmps50 (Nat.le_of_ble_eq_true rfl) (bd_all rfl) fun w0 F0 hB=>?_;dsimp only [St.init,number,Nat.reduceAdd]
  repeat refine W.go rfl ?_
  refine (?_:WL _ _ _ _ _ _)
  refine WL.vl rfl (WV.call rfl (callF Tryz.func69 rfl rfl) rfl rfl (pSysName_ok s hs)) ?_
  repeat (first|refine W.gob rfl ?_|refine WL.nil ?_|refine WL.nf rfl rfl rfl z53o ?_|refine WL.e1 rfl ?_|refine W.condF rfl ?_)
  refine (?_:WL _ _ _ _ _ _)
  refine WL.vl rfl (WV.callG hB rfl (callF Tryz.func110 rfl rfl) rfl rfl hE) ?_
  repeat (first|refine W.gob rfl ?_|refine WL.nil ?_|refine WL.nt rfl rfl rfl z53o ?_|refine WL.e1 rfl ?_|refine W.condT rfl ?_)
  refine (?_:W _ _ _ _ _)
  exact W.ret (fin2 rfl rfl rfl rfl rfl rfl rfl)
 obtain ⟨h0,hsf,hsl⟩:=engL_ok hO hx
 have hlE:=(lks_ok hs h0).2
 have hlR:=(lks_ok hs h0).1
 have hc:=pCan_FS s p hO
 rw [hlE] at hc
 rw [hx] at hE
 by_cases hl:lksR s p=[]
 rotate_left
 ·rw [(ed_no hs hx hl).1,(ed_no hs hx hl).2]
  have hb:((0:Int) == 0 && ((lksR s p).length:Int) == 0)=false:=by
   have:(lksR s p).length≠0:=fun h=>hl (List.eq_nil_of_length_eq_zero h)
   simp;omega
  rw [hb] at hc
  refine Ctg.intro stabB Tryz.func50 rfl Tryz.ntmps50 (Nat.le_of_ble_eq_true rfl) (bd_all rfl) fun w0 F0 hB=>?_;dsimp only [St.init,number,Nat.reduceAdd]
  repeat refine W.go rfl ?_
  refine (?_:WL _ _ _ _ _ _)
  refine WL.vl rfl (WV.call rfl (callF Tryz.func69 rfl rfl) rfl rfl (pSysName_ok s hs)) ?_
  repeat (first|refine W.gob rfl ?_|refine WL.nil ?_|refine WL.nf rfl rfl rfl z53o ?_|refine WL.e1 rfl ?_|refine W.condF rfl ?_)
  refine (?_:WL _ _ _ _ _ _)
  refine WL.vl rfl (WV.callG hB rfl (callF Tryz.func110 rfl rfl) rfl rfl hE) ?_
  repeat (first|refine W.gob rfl ?_|refine WL.nil ?_|refine WL.nf rfl rfl rfl z53o ?_|refine WL.e1 rfl ?_|refine W.condF rfl ?_)
  refine (?_:WL _ _ _ _ _ _)
  refine WL.vl rfl (WV.call rfl (callF Tryz.func70 rfl rfl) rfl rfl hc) ?_
  repeat (first|refine W.gob rfl ?_|refine WL.nil ?_|refine WL.e1 rfl ?_|refine W.condT rfl ?_)
  refine (?_:W _ _ _ _ _)
  exact W.ret (fin2 rfl rfl rfl rfl rfl rfl rfl)
 rw [(ed_ok hs hx hl).1,(ed_ok hs hx hl).2]
 have hb:((0:Int) == 0 && ((lksR s p).length:Int) == 0)=true:=by rw [hl];rfl
 rw [hb] at hc
 have hOn:=pOnsets_FS p hO
 rw [if_pos h0,h0] at hOn
 have hMe:=pMeasures_FS p hO
 have e4:meaR p=mea p.evs p.evs.length:=if_pos h0
 rw [e4,h0] at hMe
 have hml:=mea_length p.evs p.evs.length
 have hmb:=mea_bd p.evs p.evs.length
 have hol:=onsL_length p.evs p.evs.length
 have hnil:∀ i (h:i < p.evs.length),lackE s p i p.evs[i]=[]:=fun i h=>lksTo_none p.evs.length (Nat.le_refl _) (by rw [← hlR];exact hl) i h h
 obtain ⟨MS,hMS⟩:∃ L,mea p.evs p.evs.length=L:=⟨_,rfl⟩
 obtain ⟨L,hL⟩:∃ L,engL p key=L:=⟨_,rfl⟩
 rw [hMS] at hMe hml hmb ⊢
 rw [hL] at hE hsf hsl ⊢
 refine Ctg.intro stabB Tryz.func50 rfl Tryz.ntmps50 (Nat.le_of_ble_eq_true rfl) (bd_all rfl) fun w0 F0 hB=>?_;dsimp only [St.init,number,Nat.reduceAdd]
 repeat refine W.go rfl ?_
 refine (?_:WL _ _ _ _ _ _)
 refine WL.vl rfl (WV.call rfl (callF Tryz.func69 rfl rfl) rfl rfl (pSysName_ok s hs)) ?_
 repeat (first|refine W.gob rfl ?_|refine WL.nil ?_|refine WL.nf rfl rfl rfl z53o ?_|refine WL.e1 rfl ?_|refine W.condF rfl ?_)
 refine (?_:WL _ _ _ _ _ _)
 refine WL.vl rfl (WV.callG hB rfl (callF Tryz.func110 rfl rfl) rfl rfl hE) ?_
 repeat (first|refine W.gob rfl ?_|refine WL.nil ?_|refine WL.nf rfl rfl rfl z53o ?_|refine WL.e1 rfl ?_|refine W.condF rfl ?_)
 refine (?_:WL _ _ _ _ _ _)
 refine WL.vl rfl (WV.call rfl (callF Tryz.func70 rfl rfl) rfl rfl hc) ?_
 repeat (first|refine W.gob rfl ?_|refine WL.nil ?_|refine WL.e1 rfl ?_|refine W.condF rfl ?_)
 refine (?_:WL _ _ _ _ _ _)
 refine WL.vl rfl (WV.call rfl (callF Tryz.func111 rfl rfl) rfl rfl hOn) ?_
 repeat (first|refine W.gob rfl ?_|refine WL.nil ?_|refine WL.e1 rfl ?_)
 refine (?_:WL _ _ _ _ _ _)
 refine WL.vl rfl (WV.call rfl (callF Tryz.func112 rfl rfl) rfl rfl hMe) ?_
 have hev0:p.evs=[]:=List.eq_nil_of_length_eq_zero hne
 have hB0:edB s p MS L p.evs.length=[]:=by rw [hne];rfl
 rw [hB0]
 repeat (first|refine W.gob rfl ?_|refine WL.nil ?_|refine WL.e1 rfl ?_|refine WL.len rfl rfl z53l ?_)
 refine (?_:W _ _ _ _ _)
 refine W.loop (fun k:Nat=>k=0) (fun k=>⟨[(2,.sc (.int .u8 s)),(3,.pt 0 0 0),(16,.pt 1 0 0),(57,.ls 6 (p.evs.map eEv)),(58,.sc (.int .i64 p.evs.length)),(59,.sc (.int .i64 k))],[(0,.box 28 (ePce p).cells),(1,.box 109 [.sc (.pointer none),.sc (.slice none 0 0)])],2⟩) (fun k=>k) 0 rfl (z53t id) fun k hk=>?_
 subst hk
 repeat (first|refine W.gob rfl ?_|refine WL.nil ?_|refine WL.bf rfl rfl rfl z53o ?_|refine W.condF rfl ?_)
 refine (?_:WL _ _ _ _ _ _)
 refine WL.vl rfl (WV.box2 rfl (callF Tryz.func59 rfl rfl) rfl rfl fun w b=>bldS0 w b _) ?_
 repeat (first|refine WL.nil ?_|refine WL.e1 rfl ?_)
 refine (?_:W _ _ _ _ _)
 exact W.ret (fin2 rfl rfl rfl rfl rfl rfl rfl)
theorem pEdition_G (s:Int)(p:Pce)(hO:PcOk p)(key:Int):Ctg tabB Tryz.prog 50 [ePce p,.sc (.int .i64 key),.sc (.int .u8 s)] (.tu [.sc (.string (bs (edT s p key))),.sc (.int .i64 (edX s p key))]):=by
 by_cases h:p.evs.length=0
 ·exact pEdition_G0 s p hO key h
 ·exact pEdition_G1 s p hO key z53o
end Go.Proofs.YtgelfflighgajaaGreatDoor
namespace Go.Proofs.YtgelfflighgajaaGreatDoor
open Go.RowKit
def p11:Pce:=⟨[(67,3,false)],[1,2,3],[⟨false,4,false,false,false,[(1,1,0,0,0)]⟩,⟨false,0,false,false,false,[(1,0,0,0,0)]⟩]⟩
theorem p11_ok:PcOk p11:=pcOk_of2 (by decide +kernel)
theorem inc11:incE p11 4=0∧incL p11 4=[-1]:=by decide +kernel
theorem edx11:edX 1 p11 0=0:=by decide +kernel
theorem edt11:edT 1 p11 0=[49,58,48,32,71,35,52,32,59,32,67,32,98,10,49,58,52,56,32,71,61,52,32,59,32,45,32,97,10]:=by decide +kernel
theorem works11_G:Ctg tabB Tryz.prog 15 [] (.sc (.bool true)):=by
 have hE:=pEdition_G 1 p11 p11_ok 0
 have hI:=pIncipit_FS p11 p11_ok 4
 rw [edt11,edx11] at hE
 rw [inc11.1,inc11.2] at hI
 refine Ctg.intro stabB Tryz.func15 rfl Tryz.ntmps15 (Nat.le_of_ble_eq_true rfl) (bd_all rfl) fun w0 F0 hB=>?_;dsimp only [St.init,number,Nat.reduceAdd]
 repeat refine W.go rfl ?_
 refine (?_:WL _ _ _ _ _ _)
 refine WL.tr (Tr.freeze 0 rfl) ?_
 refine WL.tr (Tr.freeze 1 rfl) ?_
 refine WL.tr (Tr.freeze 3 rfl) ?_
 refine WL.tr (Tr.freeze 4 rfl) ?_
 repeat (first|refine W.go rfl ?_|refine WL.ev rfl ?_)
 refine (?_:WL _ _ _ _ _ _)
 refine WL.tr (Tr.freeze 5 rfl) ?_
 refine WL.vl rfl (WV.callG hB rfl (callF Tryz.func50 rfl rfl) rfl rfl hE) ?_
 repeat (first|refine W.go rfl ?_|refine WL.ev rfl ?_)
 refine (?_:WL _ _ _ _ _ _)
 refine WL.vl rfl (WV.call rfl (callF Tryz.func48 rfl rfl) rfl rfl hI) ?_
 repeat (first|refine W.gob rfl ?_|refine WL.nil ?_|refine WL.bt rfl rfl rfl z53o ?_|refine WL.e1 rfl ?_|refine WL.gyes rfl rfl rfl rfl ?_|refine WL.len rfl rfl z53l ?_)
 refine (?_:WL _ _ _ _ _ _)
 refine WL.idx rfl rfl z53o rfl ?_
 repeat (first|refine WL.nil ?_|refine WL.bt rfl rfl rfl z53o ?_|refine WL.e1 rfl ?_|refine WL.gyes rfl rfl rfl rfl ?_)
 refine (?_:W _ _ _ _ _)
 exact W.ret (fin1 rfl rfl rfl rfl)
end Go.Proofs.YtgelfflighgajaaGreatDoor
