/- The pitch of a place: the program. -/
import Derived.Deep.Slices
import Derived.ReadAgain
import Derived.Test.YtgelfflighgajaaGreatDoorNtQSq
set_option linter.unusedVariables false
set_option linter.unusedSimpArgs false
namespace Go.Proofs.YtgelfflighgajaaGreatDoor
open Go.RowKit Go.WideShapes Go.ChangeShapes Go.Joins Go.Deep
set_option maxRecDepth 100000
theorem list_of {α:Type} {Q:Nat→α→Prop}:∀ (n:Nat),(∀ i,i<n→∃ x,Q i x)→∃ l:List α,l.length=n∧∀ i (h:i<l.length),Q i l[i]:=by
 intro n
 induction n with
 | zero=>intro _;exact ⟨[],rfl,fun i h=>absurd h (by simp)⟩
 | succ n ih =>
  intro h
  obtain ⟨l,hl,hq⟩:=ih fun i hi=>h i (by omega)
  obtain ⟨x,hx⟩:=h n (by omega)
  refine ⟨l++[x],by simp [hl],fun i hi=>?_⟩
  by_cases e:i<l.length
  ·rw [List.getElem_append_left e];exact hq i e
  ·have:i=n:=by simp at hi;omega
   subst this
   rw [List.getElem_append_right (by omega)]
   simpa [hl] using hx
section
variable {H:Type} {enc:TypeId×Value→H} {P:Program} {w w':World} {base:Nat} {spare:Nat→Bool} {held:Bool}
theorem trodAll_carry:∀ {ts:List TypeId} {vs:List Value} {ds:List (DataW H)} {ps:List MemPlace},DataW.TrodAll enc P w base spare held ts vs ds ps→(∀ p∈ps,w.sameAt w' p)→DataW.TrodAll enc P w' base spare held ts vs ds ps
 | [],[],[],_,h,_=>h
 | _::_,_::_,_::_,_,⟨p,q,⟨n,h1⟩,h2,e⟩,hs=>⟨p,q,⟨n,DataW.trod_carry n _ _ _ h1 (fun x hx=>hs x (by rw [e];exact List.mem_append_left _ hx))⟩,trodAll_carry h2 (fun x hx=>hs x (by rw [e];exact List.mem_append_right _ hx)),e⟩
theorem args_keep {W W':World} {T:TypeId→Prop} {sp:Nat→Bool} (K:Kids P T) (hz:∀ t e,T t→P.underlying t=some (.slice e)→0<P.cellsOf e) {ts:List TypeId} {vs:List Value} {ds:List (DataW H)} {ps:List MemPlace} (hT:∀ t∈ts,T t)
  (h:DataW.TrodAll enc P W 0 (fun _=>true) true ts vs ds ps) (hb:Below W.heap.size W W') (hlt:∀ p∈ps,p.block<W.heap.size) (hs:∀ p∈ps,sp p.block=true):DataW.TrodAll enc P W' 0 sp true ts vs ds ps :=
 DataW.TrodAll.respare K hz hT (trodAll_carry h fun p hp=>hb.same (hlt p hp)) hs
end
theorem typesKids:Kids Tryz.prog (·<Tryz.prog.types.size):=kids_rows (by kernel_rfl) (by kernel_rfl)
theorem slicesFull:∀ t e,t<Tryz.prog.types.size→Tryz.prog.underlying t=some (.slice e)→0<Tryz.prog.cellsOf e:=slices_full_of Tryz.prog (by kernel_rfl)
section
variable {H:Type} {enc:TypeId×Value→H} {w:World} {base:Nat} {spare:Nat→Bool} {held:Bool}
theorem cellsCourse:Tryz.prog.cellsOf 98=3:=by kernel_rfl
theorem cellsInt:Tryz.prog.cellsOf 3=1:=by kernel_rfl
theorem cellsBool:Tryz.prog.cellsOf 4=1:=by kernel_rfl
theorem cellsCourses:Tryz.prog.cellsOf 22=1:=by kernel_rfl
theorem cellsInts:Tryz.prog.cellsOf 23=1:=by kernel_rfl
theorem cellsInstrument:Tryz.prog.cellsOf 25=2:=by kernel_rfl
theorem open_courses {n:Nat} {v:Value} {x:DataW H×List MemPlace} (h:DataW.trod enc Tryz.prog w base spare held n 22 [v]=some x) :
    ∃ (A:Option Addr) (c:Nat) (cs:List (Int×Int×Bool)), v=.slice A cs.length c∧cs.length≤maxLen∧Rd w w.heap.size 3 A (cs.map crsCells) := by
  rcases open_slice (P := Tryz.prog) Tryz.underlying22 h with⟨h0, _⟩ | ⟨a, len, cap, m, n', D, Pl, hcs, hb, hl, hm, hmm, _, hi⟩
  · obtain rfl:v=.slice none 0 0 := by simpa using h0
    exact ⟨none, 0, [], rfl, by simp, Rd.none_⟩
  · obtain rfl:v=.slice (some a) len cap := by simpa using hcs
    have hlm:len≤m := by rw [hmm]; split <;> omega
    obtain ⟨cs, hlen, hq⟩ := list_of (Q := fun i (x:Int×Int×Bool) => w.cell? (a.add (i*3))=some (.int .i64 x.1)∧w.cell? (a.add (i*3+1))=some (.int .i64 x.2.1)∧w.cell? (a.add (i*3+2))=some (.bool x.2.2)) len (fun i hil => by
      obtain ⟨cs', hc, ht'⟩ := hi i (by omega)
      rw [cellsCourse] at hc
      obtain ⟨ys, n2, _, _, hlen, _, hf⟩ := DataW.trod_struct Tryz.underlying98 ht'
      obtain ⟨_, hcl, hat⟩ := World.cells?_some hc
      match cs', hcl with
      | [u0, u1, u2], _ =>
        have f0:DataW.trod enc Tryz.prog w base spare held n2 3 [u0]=ys[0]? := by simpa [cellsInt] using hf 0 _ rfl
        have f1:DataW.trod enc Tryz.prog w base spare held n2 3 [u1]=ys[1]? := by simpa [cellsInt] using hf 1 _ rfl
        have f2:DataW.trod enc Tryz.prog w base spare held n2 4 [u2]=ys[2]? := by simpa [cellsBool] using hf 2 _ rfl
        have g0 := hat 0 (by omega)
        have g1 := hat 1 (by omega)
        have g2 := hat 2 (by omega)
        simp only [add_of_add, Nat.add_zero, List.getElem?_cons_zero, List.getElem?_cons_succ] at g0 g1 g2
        obtain ⟨y0, hy0⟩:∃ y, ys[0]?=some y := ⟨_, List.getElem?_eq_getElem (by rw [‹ys.length=_›]; decide)⟩
        obtain ⟨y1, hy1⟩:∃ y, ys[1]?=some y := ⟨_, List.getElem?_eq_getElem (by rw [‹ys.length=_›]; decide)⟩
        obtain ⟨y2, hy2⟩:∃ y, ys[2]?=some y := ⟨_, List.getElem?_eq_getElem (by rw [‹ys.length=_›]; decide)⟩
        rw [hy0] at f0; rw [hy1] at f1; rw [hy2] at f2
        obtain ⟨a0, e0, _, _⟩ := DataW.trod_int Tryz.underlying3 f0
        obtain ⟨a1, e1, _, _⟩ := DataW.trod_int Tryz.underlying3 f1
        obtain ⟨a2, e2, _⟩ := DataW.trod_bool Tryz.underlying4 f2
        simp only [List.cons.injEq, and_true] at e0 e1 e2
        subst e0 e1 e2
        exact ⟨(a0, a1, a2), g0, g1, g2⟩)
    refine ⟨some a, cap, cs, by rw [hlen], by omega, fun hpos => ⟨a, rfl, ?_, ?_⟩⟩
    · have hpos':0<cs.length := by simpa using hpos
      have := (hq 0 hpos').1
      have := World.block_lt_of_cell? w _ this
      rwa [block_of_add] at this
    · intro k r hr j u hu
      rw [List.getElem?_map] at hr
      cases hk:cs[k]? with
      | none => rw [hk] at hr; cases hr
      | some x =>
        rw [hk] at hr
        obtain rfl:crsCells x=r := by simpa using hr
        obtain ⟨hkl, hkx⟩ := List.getElem?_eq_some_iff.1 hk
        have q := hq k hkl
        rw [hkx] at q
        match j with
        | 0 => obtain rfl:Value.int .i64 x.1=u := by simpa [crsCells] using hu
               simpa using q.1
        | 1 => obtain rfl:Value.int .i64 x.2.1=u := by simpa [crsCells] using hu
               exact q.2.1
        | 2 => obtain rfl:Value.bool x.2.2=u := by simpa [crsCells] using hu
               exact q.2.2
        | j+3 => simp [crsCells] at hu
theorem open_ints {n:Nat} {v:Value} {x:DataW H×List MemPlace} (h:DataW.trod enc Tryz.prog w base spare held n 23 [v]=some x) :
    ∃ (A:Option Addr) (c:Nat) (st:List Int), v=.slice A st.length c∧st.length≤maxLen∧Rd w w.heap.size 1 A (st.map intCell) := by
  rcases open_slice1 (P := Tryz.prog) Tryz.underlying23 cellsInt h with⟨h0, _⟩ | ⟨a, len, cap, m, n', V, D, Pl, hcs, hb, hl, hm, hmm, _, hi⟩
  · obtain rfl:v=.slice none 0 0 := by simpa using h0
    exact ⟨none, 0, [], rfl, by simp, Rd.none_⟩
  · obtain rfl:v=.slice (some a) len cap := by simpa using hcs
    have hlm:len≤m := by rw [hmm]; split <;> omega
    obtain ⟨st, hlen, hq⟩ := list_of (Q := fun i (x:Int) => w.cell? (a.add i)=some (.int .i64 x)) len (fun i hil => by
      obtain ⟨hc, ht'⟩ := hi i (by omega)
      obtain ⟨a0, e0, _, _⟩ := DataW.trod_int Tryz.underlying3 ht'
      simp only [List.cons.injEq, and_true] at e0
      exact ⟨a0, by rw [hc, e0]⟩)
    refine ⟨some a, cap, st, by rw [hlen], by omega, fun hpos => ⟨a, rfl, ?_, ?_⟩⟩
    · have hpos':0<st.length := by simpa using hpos
      have := World.block_lt_of_cell? w _ (hq 0 hpos')
      rwa [block_of_add] at this
    · intro k r hr j u hu
      rw [List.getElem?_map] at hr
      cases hk:st[k]? with
      | none => rw [hk] at hr; cases hr
      | some x =>
        rw [hk] at hr
        obtain rfl:intCell x=r := by simpa using hr
        obtain ⟨hkl, hkx⟩ := List.getElem?_eq_some_iff.1 hk
        have q := hq k hkl
        rw [hkx] at q
        match j with
        | 0 => obtain rfl:Value.int .i64 x=u := by simpa [intCell] using hu
               simpa using q
        | j+1 => simp [intCell] at hu
theorem open_ins {n:Nat} {v0 v1:Value} {x:DataW H×List MemPlace} (h:DataW.trod enc Tryz.prog w base spare held n 25 [v0,v1]=some x) :
  ∃ (A1 A2:Option Addr) (c1 c2:Nat) (cs:List (Int×Int×Bool)) (st:List Int),v0=.slice A1 cs.length c1∧v1=.slice A2 st.length c2∧cs.length≤maxLen∧st.length≤maxLen∧InsAt w w.heap.size A1 A2 cs st:=by
 obtain ⟨ys,n2,_,_,_,hys,hf⟩:=DataW.trod_struct Tryz.underlying25 h
 have f0:DataW.trod enc Tryz.prog w base spare held n2 22 [v0]=ys[0]?:=by simpa [cellsCourses] using hf 0 _ rfl
 have f1:DataW.trod enc Tryz.prog w base spare held n2 23 [v1]=ys[1]?:=by simpa [cellsInts] using hf 1 _ rfl
 obtain ⟨y0,hy0⟩:∃ y,ys[0]?=some y:=⟨_,List.getElem?_eq_getElem (by rw [hys];decide)⟩
 obtain ⟨y1,hy1⟩:∃ y,ys[1]?=some y:=⟨_,List.getElem?_eq_getElem (by rw [hys];decide)⟩
 rw [hy0] at f0;rw [hy1] at f1
 obtain ⟨A1,c1,cs,e1,l1,r1⟩:=open_courses f0
 obtain ⟨A2,c2,st,e2,l2,r2⟩:=open_ints f1
 exact ⟨A1,A2,c1,c2,cs,st,e1,e2,l1,l2,r1,r2⟩
end
end Go.Proofs.YtgelfflighgajaaGreatDoor
namespace Go.Proofs.YtgelfflighgajaaGreatDoor
open Go.RowKit Go.WideShapes Go.ChangeShapes Go.Joins Go.Deep
set_option maxRecDepth 100000
section
variable {H:Type} {enc:TypeId×Value→H} {w:World} {base:Nat} {spare:Nat→Bool} {held:Bool}
theorem cellsStop':Tryz.prog.cellsOf 100=5:=by kernel_rfl
theorem cellsEvent:Tryz.prog.cellsOf 36=6:=by kernel_rfl
theorem cellsSign':Tryz.prog.cellsOf 33=3:=by kernel_rfl
theorem cellsStops:Tryz.prog.cellsOf 34=1:=by kernel_rfl
theorem cellsEvents:Tryz.prog.cellsOf 26=1:=by kernel_rfl
theorem cellsPiece:Tryz.prog.cellsOf 28=3:=by kernel_rfl
theorem open_stops {n:Nat} {v:Value} {x:DataW H×List MemPlace} (h:DataW.trod enc Tryz.prog w base spare held n 34 [v]=some x) :
  ∃ (A:Option Addr) (c:Nat) (l:List Stp),v=.slice A l.length c∧l.length≤c∧c≤maxLen∧StpsAt w w.heap.size A l:=by
 rcases open_slice (P:=Tryz.prog) Tryz.underlying34 h with⟨h0,_⟩|⟨a,len,cap,m,n',D,Pl,hcs,hb,hl,hm,hmm,_,hi⟩
 ·obtain rfl:v=.slice none 0 0:=by simpa using h0
  exact ⟨none,0,[],rfl,by simp,by simp,Rd.none_⟩
 ·obtain rfl:v=.slice (some a) len cap:=by simpa using hcs
  have hlm:len≤m:=by rw [hmm];split<;>omega
  obtain ⟨l,hlen,hq⟩:=list_of (Q:=fun i (x:Stp)=>∀ j u,(stpCells x)[j]?=some u→w.cell? (a.add (i*5+j))=some u) len (fun i hil=>by
   obtain ⟨cs',hc,ht'⟩:=hi i (by omega)
   rw [cellsStop'] at hc
   obtain ⟨ys,n2,_,_,hlen,hys,hf⟩:=DataW.trod_struct Tryz.underlying100 ht'
   obtain ⟨_,hcl,hat⟩:=World.cells?_some hc
   match cs',hcl with
   | [u0,u1,u2,u3,u4],_ =>
    have f0:DataW.trod enc Tryz.prog w base spare held n2 3 [u0]=ys[0]?:=by simpa [cellsInt] using hf 0 _ rfl
    have f1:DataW.trod enc Tryz.prog w base spare held n2 3 [u1]=ys[1]?:=by simpa [cellsInt] using hf 1 _ rfl
    have f2:DataW.trod enc Tryz.prog w base spare held n2 3 [u2]=ys[2]?:=by simpa [cellsInt] using hf 2 _ rfl
    have f3:DataW.trod enc Tryz.prog w base spare held n2 3 [u3]=ys[3]?:=by simpa [cellsInt] using hf 3 _ rfl
    have f4:DataW.trod enc Tryz.prog w base spare held n2 3 [u4]=ys[4]?:=by simpa [cellsInt] using hf 4 _ rfl
    have gy:∀ j,j<5→∃ y,ys[j]?=some y:=fun j hj=>⟨_,List.getElem?_eq_getElem (by rw [hys];exact hj)⟩
    obtain ⟨y0,hy0⟩:=gy 0 (by omega)
    obtain ⟨y1,hy1⟩:=gy 1 (by omega)
    obtain ⟨y2,hy2⟩:=gy 2 (by omega)
    obtain ⟨y3,hy3⟩:=gy 3 (by omega)
    obtain ⟨y4,hy4⟩:=gy 4 (by omega)
    rw [hy0] at f0;rw [hy1] at f1;rw [hy2] at f2;rw [hy3] at f3;rw [hy4] at f4
    obtain ⟨a0,e0,_,_⟩:=DataW.trod_int Tryz.underlying3 f0
    obtain ⟨a1,e1,_,_⟩:=DataW.trod_int Tryz.underlying3 f1
    obtain ⟨a2,e2,_,_⟩:=DataW.trod_int Tryz.underlying3 f2
    obtain ⟨a3,e3,_,_⟩:=DataW.trod_int Tryz.underlying3 f3
    obtain ⟨a4,e4,_,_⟩:=DataW.trod_int Tryz.underlying3 f4
    simp only [List.cons.injEq,and_true] at e0 e1 e2 e3 e4
    subst e0 e1 e2 e3 e4
    refine ⟨(a0,a1,a2,a3,a4),fun j u hu=>?_⟩
    have hj:j<5:=(List.getElem?_eq_some_iff.1 hu).1
    have:=hat j hj
    rw [add_of_add] at this
    rw [this]
    exact hu)
  refine ⟨some a,cap,l,by rw [hlen],by omega,hm,fun hpos=>⟨a,rfl,?_,?_⟩⟩
  ·have hpos':0<l.length:=by simpa using hpos
   have:=World.block_lt_of_cell? w _ (hq 0 hpos' 0 _ rfl)
   rwa [block_of_add] at this
  ·intro k r hr j u hu
   rw [List.getElem?_map] at hr
   cases hk:l[k]? with
   | none=>rw [hk] at hr;cases hr
   | some x =>
    rw [hk] at hr
    obtain rfl:stpCells x=r:=by simpa using hr
    obtain ⟨hkl,hkx⟩:=List.getElem?_eq_some_iff.1 hk
    have q:=hq k hkl
    rw [hkx] at q
    exact q j u hu
end
end Go.Proofs.YtgelfflighgajaaGreatDoor
namespace Go.Proofs.YtgelfflighgajaaGreatDoor
open Go.RowKit
set_option maxHeartbeats 4000000
set_option maxRecDepth 100000
theorem crsE_p {st:List Int}:∀ {cs:List (Int×Int×Bool)},crsE st cs=0→∀ k (h:k<cs.length),0≤cs[k].1∧cs[k].1≤127:=by
 intro cs
 induction cs with
 | nil=>intro _ k h;simp at h
 | cons x r ih =>
  intro h k hk
  unfold crsE at h
  by_cases h1:x.2.1<0∨(st.length:Int)<x.2.1
  ·rw [if_pos h1] at h;cases h
  ·rw [if_neg h1] at h
   by_cases h2:(x.1<0∨127<x.1)∨127<topOf st x
   ·rw [if_pos h2] at h;cases h
   ·rw [if_neg h2] at h
    cases k with
    | zero=>simp;omega
    | succ k=>simpa using ih h k (by simpa using hk)
theorem stopped_FS (cs:List (Int×Int×Bool)) (st:List Int) (x:Int×Int×Bool) (f:Int) (hx:0≤x.1∧x.1≤127) (hf:0≤f∧f≤st.length) (hl:st.length≤18) (hs:∀ k (h:k < st.length),1≤st[k]∧st[k]≤127) :
  Ctr Tryz.prog 247 [.ag (eIns cs st),.ag (eCrs x),.sc (.int .i64 f)] (.sc (.int .i64 (x.1+if 0 < f then st.getD (f - 1).toNat 0 else 0))):=by
 refine Ctr.intro Tryz.func247 rfl Tryz.ntmps247 (Nat.le_of_ble_eq_true rfl) (bd_all rfl) fun w0 F0=>?_;dsimp only [St.init,number,Nat.reduceAdd]
 by_cases h0:f=0
 ·subst h0
  have e0:x.1+(if (0:Int) < 0 then st.getD ((0:Int) - 1).toNat 0 else 0)=x.1:=by simp
  rw [e0]
  repeat (first|refine W.go rfl ?_|refine W.condT rfl ?_)
  refine (?_:W _ _ _ _ _)
  dsimp only [St.put,Nat.reduceAdd]
  exact W.ret (fin1 rfl rfl rfl rfl)
 ·have hlt:(f - 1).toNat < st.length:=by omega
  have hs1:=hs _ hlt
  have hg:st.getD (f - 1).toNat 0=st[(f - 1).toNat]:=by rw [List.getD_eq_getElem?_getD,List.getElem?_eq_getElem hlt];rfl
  rw [if_pos (by omega),hg]
  repeat (first|refine W.gob rfl ?_|refine WL.nil ?_|refine WL.bf rfl rfl rfl (by omega) ?_|refine WL.e1 rfl ?_|refine W.condF rfl ?_)
  refine (?_:W _ _ _ _ _)
  dsimp only [St.put,Nat.reduceAdd]
  refine W.drawK (by kernel_rfl) (by kernel_rfl) ?_
  repeat (first|refine DK.st rfl ?_|refine DK.ar rfl rfl (by unfold I64;omega) ?_|refine DK.idx rfl rfl (by omega) (by first|exact map_at (by omega)|exact map_atZ (by omega) (by omega)) ?_|refine DK.nil ?_)
  refine (?_:W _ _ _ _ _)
  dsimp only [St.put,Nat.reduceAdd]
  exact W.ret (fin1 rfl rfl rfl rfl)
theorem pAt_FS (cs:List (Int×Int×Bool)) (st:List Int) (c f:Int) (hI:insE cs st=0) (hc:1≤c∧c≤cs.length) (hf:0≤f∧f≤fretsOf cs c) :
  Ctr Tryz.prog 231 [.ag (eIns cs st),.ag [.sc (.int .i64 c),.sc (.int .i64 f)]] (.tu [.sc (.int .i64 (pitN cs st c f)),.sc (.int .i64 0)]):=by
 obtain ⟨l1,l2,l3,l4,l5⟩:=insE_len hI
 have hC:=pInsCheck_FS cs st
 rw [hI] at hC
 have hk:(c - 1).toNat < cs.length:=by omega
 have hfr:=crsE_fr l5 _ hk
 have hp:=crsE_p l5 _ hk
 have ef:fretsOf cs c=cs[(c - 1).toNat].2.1:=by
  have:=fretsOf_at hk
  rw [← this];congr 1;omega
 rw [ef] at hf
 have ep:pitN cs st c f=cs[(c - 1).toNat].1+if 0 < f then st.getD (f - 1).toNat 0 else 0:=by
  unfold pitN
  rw [List.getD_eq_getElem?_getD,List.getElem?_eq_getElem hk];rfl
 rw [ep]
 have hS:=stopped_FS cs st cs[(c - 1).toNat] f hp ⟨hf.1,by omega⟩ l3 (stepsBad_bd (Int.le_refl 0) l4)
 refine Ctr.intro Tryz.func231 rfl Tryz.ntmps231 (Nat.le_of_ble_eq_true rfl) (bd_all rfl) fun w0 F0=>?_;dsimp only [St.init,number,Nat.reduceAdd]
 repeat refine W.go rfl ?_
 refine (?_:WL _ _ _ _ _ _)
 dsimp only [St.put,Nat.reduceAdd]
 refine WL.vl rfl (WV.call rfl (callF Tryz.func117 rfl rfl) rfl rfl hC) ?_
 repeat (first|refine W.gob rfl ?_|refine WL.nil ?_|refine WL.bf rfl rfl rfl (by omega) ?_|refine WL.nf rfl rfl rfl (by omega) ?_|refine WL.e1 rfl ?_|refine WL.gyes rfl rfl rfl rfl ?_|refine WL.ar rfl rfl (by unfold I64;omega) ?_|refine WL.len rfl rfl (by first|exact List.length_map _|exact List.length_replicate|rfl) ?_|refine WL.idx rfl rfl (by omega) (by first|exact map_at (by omega)|exact map_atZ (by omega) (by omega)) ?_|refine W.condF rfl ?_)
 refine (?_:WL _ _ _ _ _ _)
 dsimp only [St.put,Nat.reduceAdd]
 refine WL.vl rfl (WV.call rfl (callF Tryz.func247 rfl rfl) rfl rfl hS) ?_
 repeat (first|refine WL.nil ?_|refine WL.e1 rfl ?_)
 refine (?_:W _ _ _ _ _)
 dsimp only [St.put,Nat.reduceAdd]
 exact W.ret (fin2 rfl rfl rfl rfl rfl rfl rfl)
end Go.Proofs.YtgelfflighgajaaGreatDoor
