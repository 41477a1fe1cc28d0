/- A walk that knows values as trees: an own slice is handed on in a drawn region. -/
import Derived.Test.YthohlofpphjofaaGreatDoorNrAGq
set_option maxHeartbeats 8000000
set_option maxRecDepth 100000
set_option linter.unusedVariables false
set_option linter.unusedSimpArgs false
namespace Go.Proofs.YthohlofpphjofaaGreatDoor
theorem ac9 {p:Prop}(h:p:=by rw [‹ys.length=_›];decide):p:=h
theorem adK {p:Prop}(h:p:=by
 obtain rfl:v=.slice none 0 0:=by simpa using h0
 exact⟨none,0,[],rfl,by simp,Rd.none_⟩):p:=h
section
open Go.RowKit Go.WideShapes Go.ChangeShapes Go.Joins Go.Deep
theorem xX {α:Type} {Q:Nat→α→Prop}:∀ (n:Nat),(∀ i,i<n→∃ x,Q i x)→∃ l:List α,l.length=n∧∀ i (h:i<l.length),Q i l[i]:=by
 intro n
 induction n with
 | zero=>intro _;exact⟨[],rfl,fun i h=>absurd h (by simp)⟩
 | succ n ih =>
  intro h
  obtain⟨l,hl,hq⟩:=ih fun i hi=>h i aj
  obtain⟨x,hx⟩:=h n aj
  refine⟨l++[x],by simp [hl],fun i hi=>?_⟩
  by_cases e:i<l.length
  ·rw [Fa e];exact hq i e
  ·have:i=n:=by simp at hi;omega
   subst this
   rw [Um (by omega)]
   simpa [hl]using hx
section
variable {H:Type} {enc:TypeId×Value→H} {P:Program} {w w':World} {base:Nat} {spare:Nat→Bool} {held:Bool}
theorem vX:∀ {ts:List TypeId} {vs:List Value} {ds:List (DataW H)} {ps:List MemPlace},DataW.TrodAll enc P w base spare held ts vs ds ps→(∀ p∈ps,w.sameAt w' p)→DataW.TrodAll enc P w' base spare held ts vs ds ps
 | [],[],[],_,h,_=>h
 | _::_,_::_,_::_,_,⟨p,q,⟨n,h1⟩,h2,e⟩,hs=>⟨p,q,⟨n,DataW.trod_carry n _ _ _ h1 (fun x hx=>hs x (by rw [e];exact EH _ hx))⟩,vX h2 (fun x hx=>hs x (by rw [e];exact List.mem_append_right _ hx)),e⟩
theorem Xl {W W':World} {T:TypeId→Prop} {sp:Nat→Bool} (K:Kids P T)(hz:∀ t e,T t→P.underlying t=some (.slice e)→0<P.cellsOf e) {ts:List TypeId} {vs:List Value} {ds:List (DataW H)} {ps:List MemPlace} (hT:∀ t∈ts,T t)
  (h:DataW.TrodAll enc P W 0 (fun _=>true) true ts vs ds ps)(hb:Below W.heap.size W W')(hlt:∀ p∈ps,p.block<W.heap.size)(hs:∀ p∈ps,sp p.block=true):DataW.TrodAll enc P W' 0 sp true ts vs ds ps :=
 DataW.TrodAll.respare K hz hT (vX h fun p hp=>hb.same (hlt p hp)) hs
end
theorem ZH:Kids Tryz.prog (·<Tryz.prog.types.size):=kids_rows (by kernel_rfl) (by kernel_rfl)
theorem TB:∀ t e,t<Tryz.prog.types.size→Tryz.prog.underlying t=some (.slice e)→0<Tryz.prog.cellsOf e:=slices_full_of Tryz.prog (by kernel_rfl)
section
variable {H:Type} {enc:TypeId×Value→H} {w:World} {base:Nat} {spare:Nat→Bool} {held:Bool}
theorem Nl:Tryz.prog.cellsOf 117=3:=by kernel_rfl
theorem kK:Tryz.prog.cellsOf 3=1:=by kernel_rfl
theorem qm:Tryz.prog.cellsOf 4=1:=by kernel_rfl
theorem xJ:Tryz.prog.cellsOf 24=1:=by kernel_rfl
theorem GN:Tryz.prog.cellsOf 25=1:=by kernel_rfl
theorem Bh:Tryz.prog.cellsOf 27=2:=by kernel_rfl
theorem KF {n:Nat} {v:Value} {x:DataW H×List MemPlace} (h:DataW.trod enc Tryz.prog w base spare held n 24 [v]=some x) :
    ∃ (A:Option Addr)(c:Nat)(cs:List (Int×Int×Bool)),v=.slice A cs.length c∧cs.length≤maxLen∧Rd w w.heap.size 3 A (cs.map dA):=by
  rcases open_slice (P:=Tryz.prog) Tryz.underlying24 h with⟨h0,_⟩|⟨a,len,cap,m,n',D,Pl,hcs,hb,hl,hm,hmm,_,hi⟩
  · exact adK
  · obtain rfl:v=.slice (some a) len cap:=by simpa using hcs
    have hlm:len≤m:=by rw [hmm];split <;> omega
    obtain⟨cs,hlen,hq⟩:=xX (Q:=fun i (x:Int×Int×Bool) => w.cell? (a.add (i*3))=some (.int .i64 x.1)∧w.cell? (a.add (i*3+1))=some (.int .i64 x.2.1)∧w.cell? (a.add (i*3+2))=some (.bool x.2.2)) len (fun i hil => by
      obtain⟨cs',hc,ht'⟩:=hi i aj
      rw [Nl] at hc
      obtain⟨ys,n2,_,_,hlen,_,hf⟩:=DataW.trod_struct Tryz.underlying117 ht'
      obtain⟨_,hcl,hat⟩:=World.cells?_some hc
      match cs',hcl with
      | [u0,u1,u2],_ =>
        have f0:DataW.trod enc Tryz.prog w base spare held n2 3 [u0]=ys[0]?:=by simpa [kK] using hf 0 _ rfl
        have f1:DataW.trod enc Tryz.prog w base spare held n2 3 [u1]=ys[1]?:=by simpa [kK] using hf 1 _ rfl
        have f2:DataW.trod enc Tryz.prog w base spare held n2 4 [u2]=ys[2]?:=by simpa [qm] using hf 2 _ rfl
        have g0:=hat 0 aj
        have g1:=hat 1 aj
        have g2:=hat 2 aj
        simp only [add_of_add,vY,List.getElem?_cons_zero,List.getElem?_cons_succ] at g0 g1 g2
        obtain⟨y0,hy0⟩:∃ y,ys[0]?=some y :=⟨_,aB ac9⟩
        obtain⟨y1,hy1⟩:∃ y,ys[1]?=some y :=⟨_,aB ac9⟩
        obtain⟨y2,hy2⟩:∃ y,ys[2]?=some y :=⟨_,aB ac9⟩
        rw [hy0] at f0;rw [hy1] at f1;rw [hy2] at f2
        obtain⟨a0,e0,_,_⟩:=DataW.trod_int Tryz.underlying3 f0
        obtain⟨a1,e1,_,_⟩:=DataW.trod_int Tryz.underlying3 f1
        obtain⟨a2,e2,_⟩:=DataW.trod_bool Tryz.underlying4 f2
        simp only [List.cons.injEq,and_true] at e0 e1 e2
        subst e0 e1 e2
        exact⟨(a0,a1,a2),g0,g1,g2⟩)
    refine⟨some a,cap,cs,by rw [hlen],by omega,fun hpos =>⟨a,rfl,?_,?_⟩⟩
    · have hpos':0<cs.length:=by simpa using hpos
      have:=(hq 0 hpos').1
      have:=World.block_lt_of_cell? w _ this
      rwa [block_of_add] at this
    · intro k r hr j u hu
      rw [bC] at hr
      cases hk:cs[k]? with
      | none => rw [hk] at hr;cases hr
      | some x =>
        rw [hk] at hr
        obtain rfl:dA x=r:=by simpa using hr
        obtain⟨hkl,hkx⟩:=List.getElem?_eq_some_iff.1 hk
        have q:=hq k hkl
        rw [hkx] at q
        match j with
        | 0 => obtain rfl:Value.int .i64 x.1=u:=by simpa [dA] using hu
               simpa using q.1
        | 1 => obtain rfl:Value.int .i64 x.2.1=u:=by simpa [dA] using hu
               exact q.2.1
        | 2 => obtain rfl:Value.bool x.2.2=u:=by simpa [dA] using hu
               exact q.2.2
        | j+3 => simp [dA] at hu
theorem open_ints {n:Nat} {v:Value} {x:DataW H×List MemPlace} (h:DataW.trod enc Tryz.prog w base spare held n 25 [v]=some x) :
    ∃ (A:Option Addr)(c:Nat)(st:List Int),v=.slice A st.length c∧st.length≤maxLen∧Rd w w.heap.size 1 A (st.map gG):=by
  rcases open_slice1 (P:=Tryz.prog) Tryz.underlying25 kK h with⟨h0,_⟩|⟨a,len,cap,m,n',V,D,Pl,hcs,hb,hl,hm,hmm,_,hi⟩
  · exact adK
  · obtain rfl:v=.slice (some a) len cap:=by simpa using hcs
    have hlm:len≤m:=by rw [hmm];split <;> omega
    obtain⟨st,hlen,hq⟩:=xX (Q:=fun i (x:Int) => w.cell? (a.add i)=some (.int .i64 x)) len (fun i hil => by
      obtain⟨hc,ht'⟩:=hi i aj
      obtain⟨a0,e0,_,_⟩:=DataW.trod_int Tryz.underlying3 ht'
      simp only [List.cons.injEq,and_true] at e0
      exact⟨a0,by rw [hc,e0]⟩)
    refine⟨some a,cap,st,by rw [hlen],by omega,fun hpos =>⟨a,rfl,?_,?_⟩⟩
    · have hpos':0<st.length:=by simpa using hpos
      have:=World.block_lt_of_cell? w _ (hq 0 hpos')
      rwa [block_of_add] at this
    · intro k r hr j u hu
      rw [bC] at hr
      cases hk:st[k]? with
      | none => rw [hk] at hr;cases hr
      | some x =>
        rw [hk] at hr
        obtain rfl:gG x=r:=by simpa using hr
        obtain⟨hkl,hkx⟩:=List.getElem?_eq_some_iff.1 hk
        have q:=hq k hkl
        rw [hkx] at q
        match j with
        | 0 => obtain rfl:Value.int .i64 x=u:=by simpa [gG] using hu
               simpa using q
        | j+1 => simp [gG] at hu
theorem abH {n:Nat} {v0 v1:Value} {x:DataW H×List MemPlace} (h:DataW.trod enc Tryz.prog w base spare held n 27 [v0,v1]=some x) :
  ∃ (A1 A2:Option Addr)(c1 c2:Nat)(cs:List (Int×Int×Bool))(st:List Int),v0=.slice A1 cs.length c1∧v1=.slice A2 st.length c2∧cs.length≤maxLen∧st.length≤maxLen∧gV w w.heap.size A1 A2 cs st:=by
 obtain⟨ys,n2,_,_,_,hys,hf⟩:=DataW.trod_struct Tryz.underlying27 h
 have f0:DataW.trod enc Tryz.prog w base spare held n2 24 [v0]=ys[0]?:=by simpa [xJ]using hf 0 _ rfl
 have f1:DataW.trod enc Tryz.prog w base spare held n2 25 [v1]=ys[1]?:=by simpa [GN]using hf 1 _ rfl
 obtain⟨y0,hy0⟩:∃ y,ys[0]?=some y:=⟨_,aB (by rw [hys];decide)⟩
 obtain⟨y1,hy1⟩:∃ y,ys[1]?=some y:=⟨_,aB (by rw [hys];decide)⟩
 rw [hy0]at f0;rw [hy1]at f1
 obtain⟨A1,c1,cs,e1,l1,r1⟩:=KF f0
 obtain⟨A2,c2,st,e2,l2,r2⟩:=open_ints f1
 exact⟨A1,A2,c1,c2,cs,st,e1,e2,l1,l2,r1,r2⟩
end
section
variable {H:Type} {enc:TypeId×Value→H} {w:World} {base:Nat} {spare:Nat→Bool} {held:Bool}
theorem QJ:Tryz.prog.cellsOf 69=5:=by kernel_rfl
theorem QG:Tryz.prog.cellsOf 90=6:=by kernel_rfl
theorem QI:Tryz.prog.cellsOf 87=3:=by kernel_rfl
theorem QK:Tryz.prog.cellsOf 88=1:=by kernel_rfl
theorem Np:Tryz.prog.cellsOf 28=1:=by kernel_rfl
theorem QH:Tryz.prog.cellsOf 30=3:=by kernel_rfl
theorem SC {n:Nat} {v:Value} {x:DataW H×List MemPlace} (h:DataW.trod enc Tryz.prog w base spare held n 88 [v]=some x) :
  ∃ (A:Option Addr)(c:Nat)(l:List Stp),v=.slice A l.length c∧l.length≤c∧c≤maxLen∧eP w w.heap.size A l:=by
 rcases open_slice (P:=Tryz.prog) Tryz.underlying88 h with⟨h0,_⟩|⟨a,len,cap,m,n',D,Pl,hcs,hb,hl,hm,hmm,_,hi⟩
 ·obtain rfl:v=.slice none 0 0:=by simpa using h0
  exact⟨none,0,[],rfl,by simp,by simp,Rd.none_⟩
 ·obtain rfl:v=.slice (some a) len cap:=by simpa using hcs
  have hlm:len≤m:=by rw [hmm];split<;>omega
  obtain⟨l,hlen,hq⟩:=xX (Q:=fun i (x:Stp)=>∀ j u,(mF x)[j]?=some u→w.cell? (a.add (i*5+j))=some u) len (fun i hil=>by
   obtain⟨cs',hc,ht'⟩:=hi i aj
   rw [QJ] at hc
   obtain⟨ys,n2,_,_,hlen,hys,hf⟩:=DataW.trod_struct Tryz.underlying69 ht'
   obtain⟨_,hcl,hat⟩:=World.cells?_some hc
   match cs',hcl with
   | [u0,u1,u2,u3,u4],_ =>
    have f0:DataW.trod enc Tryz.prog w base spare held n2 3 [u0]=ys[0]?:=by simpa [kK] using hf 0 _ rfl
    have f1:DataW.trod enc Tryz.prog w base spare held n2 3 [u1]=ys[1]?:=by simpa [kK] using hf 1 _ rfl
    have f2:DataW.trod enc Tryz.prog w base spare held n2 3 [u2]=ys[2]?:=by simpa [kK] using hf 2 _ rfl
    have f3:DataW.trod enc Tryz.prog w base spare held n2 3 [u3]=ys[3]?:=by simpa [kK] using hf 3 _ rfl
    have f4:DataW.trod enc Tryz.prog w base spare held n2 3 [u4]=ys[4]?:=by simpa [kK] using hf 4 _ rfl
    have gy:∀ j,j<5→∃ y,ys[j]?=some y:=fun j hj=>⟨_,aB (by rw [hys];exact hj)⟩
    obtain⟨y0,hy0⟩:=gy 0 aj
    obtain⟨y1,hy1⟩:=gy 1 aj
    obtain⟨y2,hy2⟩:=gy 2 aj
    obtain⟨y3,hy3⟩:=gy 3 aj
    obtain⟨y4,hy4⟩:=gy 4 aj
    rw [hy0] at f0;rw [hy1] at f1;rw [hy2] at f2;rw [hy3] at f3;rw [hy4] at f4
    obtain⟨a0,e0,_,_⟩:=DataW.trod_int Tryz.underlying3 f0
    obtain⟨a1,e1,_,_⟩:=DataW.trod_int Tryz.underlying3 f1
    obtain⟨a2,e2,_,_⟩:=DataW.trod_int Tryz.underlying3 f2
    obtain⟨a3,e3,_,_⟩:=DataW.trod_int Tryz.underlying3 f3
    obtain⟨a4,e4,_,_⟩:=DataW.trod_int Tryz.underlying3 f4
    simp only [List.cons.injEq,and_true] at e0 e1 e2 e3 e4
    subst e0 e1 e2 e3 e4
    refine⟨(a0,a1,a2,a3,a4),fun j u hu=>?_⟩
    have hj:j<5:=(List.getElem?_eq_some_iff.1 hu).1
    have:=hat j hj
    rw [add_of_add] at this
    rw [this]
    exact hu)
  refine⟨some a,cap,l,by rw [hlen],by omega,hm,fun hpos=>⟨a,rfl,?_,?_⟩⟩
  ·have hpos':0<l.length:=by simpa using hpos
   have:=World.block_lt_of_cell? w _ (hq 0 hpos' 0 _ rfl)
   rwa [block_of_add] at this
  ·intro k r hr j u hu
   rw [bC] at hr
   cases hk:l[k]? with
   | none=>rw [hk] at hr;cases hr
   | some x =>
    rw [hk] at hr
    obtain rfl:mF x=r:=by simpa using hr
    obtain⟨hkl,hkx⟩:=List.getElem?_eq_some_iff.1 hk
    have q:=hq k hkl
    rw [hkx] at q
    exact q j u hu
end
theorem Tt {α:Type} {w:World} {n:Nat} {l:List α} {e:α→List AV} {f:α→List Value} {A:Option Addr} {c B:Nat} (hr:Rd w B n A (l.map f)) (hc:l.length≤c)
  (hf:∀ x,(e x).length=n) (hef:∀ x (j:Nat) av,(e x)[j]?=some av→∃ u,av=.sc u∧(f x)[j]?=some u∧u.oneCell'=true):RP (fun q=>w.cell? q) (.ls n (l.map e)) (.slice A l.length c):=by
 have hcell:∀ ad,A=some ad→∀ (k:Nat) x,l[k]?=some x→∀ (j:Nat) u,(f x)[j]?=some u→w.cell? (ad.add (k*n+j))=some u:=fun ad had k x hk j u hu=>by
  have hl:0<(l.map f).length:=by grind
  obtain ⟨ad',e',_,h2⟩:=hr hl
  simp_all
 have key:∀ (i:Nat) r (j:Nat) av,(l.map e)[i]?=some r→r[j]?=some av→∃ x u,l[i]?=some x∧av=.sc u∧(f x)[j]?=some u∧u.oneCell'=true:=fun i r j av hr' hav=>by
  grind
 have hlen:l.length=(l.map e).length:=by simp
 rw [hlen]
 refine .ls n (l.map e) A c (A.getD ⟨0,0,none⟩) (fun i j=>((l[i]?).bind fun x=>(f x)[j]?).getD undef) (by simpa using hc) (fun r hr'=>?_) (fun hp=>?_) (fun i r j av hr' hav=>?_) (fun i r j av hr' hav=>?_)
 ·grind
 ·obtain ⟨ad,e',_⟩:=hr (by simpa using hp)
  rw [e'];rfl
 ·obtain ⟨x,u,h1,h2,h3,h4⟩:=key i r j av hr' hav
  obtain ⟨ad,e',_⟩:=hr (by have:=(List.getElem?_eq_some_iff.1 h1).1;simp;omega)
  grind
 ·exact adt
theorem afV(x:Stp)(j:Nat)(av:AV)(h:(iI x)[j]?=some av):∃ u,av=.sc u∧(mF x)[j]?=some u∧u.oneCell'=true:=by
 match j with
 | 0=>cases h;exact⟨_,rfl,rfl,rfl⟩
 | 1=>cases h;exact⟨_,rfl,rfl,rfl⟩
 | 2=>cases h;exact⟨_,rfl,rfl,rfl⟩
 | 3=>cases h;exact⟨_,rfl,rfl,rfl⟩
 | 4=>cases h;exact⟨_,rfl,rfl,rfl⟩
 | j+5=>simp [iI]at h
section
variable {H:Type} {enc:TypeId×Value→H} {w:World} {base:Nat} {spare:Nat→Bool} {held:Bool}
theorem zL {n k c:Nat} {T e:TypeId} {A:Option Addr} {x:DataW H×List MemPlace} (hu:Tryz.prog.underlying T=some (.slice e))(h:DataW.trod enc Tryz.prog w base spare held n T [.slice A k c]=some x):k≤c:=by
 rcases open_slice (P:=Tryz.prog) hu h with⟨h0,_⟩|⟨a,len,cap,m,n',D,Pl,hcs,hb,hl,hm,hmm,_,hi⟩
 all_goals simp_all
theorem DN {n:Nat} {v:Value} {x:DataW H×List MemPlace} (h:DataW.trod enc Tryz.prog w base spare held n 28 [v]=some x) :
  ∃ evs:List Ev,RP (fun q=>w.cell? q) (.ls 6 (evs.map iq)) v:=by
 rcases open_slice (P:=Tryz.prog) Tryz.underlying28 h with⟨h0,_⟩|⟨a,len,cap,m,n',D,Pl,hcs,hb,hl,hm,hmm,_,hi⟩
 ·obtain rfl:v=.slice none 0 0:=by simpa using h0
  exact ⟨[],.ls 6 [] none 0 ⟨0,0,none⟩ (fun _ _=>undef) (by simp) (by simp) (fun h=>absurd h (by simp)) (fun i r j av h=>by simp at h) (fun i r j av h=>by simp at h)⟩
 ·obtain rfl:v=.slice (some a) len cap:=by simpa using hcs
  have hlm:len≤m:=by rw [hmm];split<;>omega
  obtain ⟨l,hlen,hq⟩:=xX (Q:=fun i (x:Ev×(Option Addr×Nat))=>(∀ j u,(kL x.1 x.2)[j]?=some u→w.cell? (a.add (i*6+j))=some u)∧eP w w.heap.size x.2.1 x.1.stops∧x.1.stops.length≤x.2.2) len (fun i hil=>by
   obtain ⟨cs',hc,ht'⟩:=hi i aj
   rw [QG] at hc
   obtain ⟨ys,n2,_,_,hlen,hys,hf⟩:=DataW.trod_struct Tryz.underlying90 ht'
   obtain ⟨_,hcl,hat⟩:=World.cells?_some hc
   match cs',hcl with
   | [u0,u1,u2,u3,u4,u5],_ =>
    have f0:DataW.trod enc Tryz.prog w base spare held n2 4 [u0]=ys[0]?:=by simpa [qm] using hf 0 _ rfl
    have f1:DataW.trod enc Tryz.prog w base spare held n2 87 [u1,u2,u3]=ys[1]?:=by simpa [QI] using hf 1 _ rfl
    have f2:DataW.trod enc Tryz.prog w base spare held n2 4 [u4]=ys[2]?:=by simpa [qm] using hf 2 _ rfl
    have f3:DataW.trod enc Tryz.prog w base spare held n2 88 [u5]=ys[3]?:=by simpa [QK] using hf 3 _ rfl
    have gy:∀ j,j<4→∃ y,ys[j]?=some y:=fun j hj=>⟨_,aB (by rw [hys];exact hj)⟩
    obtain ⟨y0,hy0⟩:=gy 0 aj
    obtain ⟨y1,hy1⟩:=gy 1 aj
    obtain ⟨y2,hy2⟩:=gy 2 aj
    obtain ⟨y3,hy3⟩:=gy 3 aj
    rw [hy0] at f0;rw [hy1] at f1;rw [hy2] at f2;rw [hy3] at f3
    obtain ⟨zs,n3,_,_,_,hzs,hg⟩:=DataW.trod_struct Tryz.underlying87 f1
    have s0:DataW.trod enc Tryz.prog w base spare held n3 3 [u1]=zs[0]?:=by simpa [kK] using hg 0 _ rfl
    have s1:DataW.trod enc Tryz.prog w base spare held n3 4 [u2]=zs[1]?:=by simpa [qm] using hg 1 _ rfl
    have s2:DataW.trod enc Tryz.prog w base spare held n3 4 [u3]=zs[2]?:=by simpa [qm] using hg 2 _ rfl
    have gz:∀ j,j<3→∃ y,zs[j]?=some y:=fun j hj=>⟨_,aB (by rw [hzs];exact hj)⟩
    obtain ⟨z0,hz0⟩:=gz 0 aj
    obtain ⟨z1,hz1⟩:=gz 1 aj
    obtain ⟨z2,hz2⟩:=gz 2 aj
    rw [hz0] at s0;rw [hz1] at s1;rw [hz2] at s2
    obtain ⟨b0,e0,_⟩:=DataW.trod_bool Tryz.underlying4 f0
    obtain ⟨b1,e1,_,_⟩:=DataW.trod_int Tryz.underlying3 s0
    obtain ⟨b2,e2,_⟩:=DataW.trod_bool Tryz.underlying4 s1
    obtain ⟨b3,e3,_⟩:=DataW.trod_bool Tryz.underlying4 s2
    obtain ⟨b4,e4,_⟩:=DataW.trod_bool Tryz.underlying4 f2
    obtain ⟨S,c,l,e5,hlc,_,hS⟩:=SC f3
    simp only [List.cons.injEq,and_true] at e0 e1 e2 e3 e4
    subst e0 e1 e2 e3 e4 e5
    refine ⟨(⟨b0,b1,b2,b3,b4,l⟩,(S,c)),fun j u hu=>?_,hS,hlc⟩
    have hj:j<6:=(List.getElem?_eq_some_iff.1 hu).1
    have:=hat j hj
    rw [add_of_add] at this
    rw [this]
    exact hu)
  refine ⟨l.map (·.1),?_⟩
  have hll:len=((l.map (·.1)).map iq).length:=by simp [hlen]
  have key:∀ (i:Nat) r (j:Nat) av,((l.map (·.1)).map iq)[i]?=some r→r[j]?=some av→∃ x u,l[i]?=some x∧(kL x.1 x.2)[j]?=some u∧w.cell? (a.add (i*6+j))=some u∧u.oneCell'=true∧RP (fun q=>w.cell? q) av u:=fun i r j av hr hav=>by
   rw [oC,bC] at hr
   cases hx:l[i]? with
   | none=>simp [hx] at hr
   | some x =>
    rw [hx] at hr
    obtain rfl:iq x.1=r:=by simpa using hr
    obtain ⟨hkl,hkx⟩:=List.getElem?_eq_some_iff.1 hx
    have q:=hq i hkl
    rw [hkx] at q
    have fin:∀ u,(kL x.1 x.2)[j]?=some u→u.oneCell'=true→RP (fun q=>w.cell? q) av u→∃ x' u,some x=some x'∧(kL x'.1 x'.2)[j]?=some u∧w.cell? (a.add (i*6+j))=some u∧u.oneCell'=true∧RP (fun q=>w.cell? q) av u:=fun u h1 h2 h3=>⟨x,u,rfl,h1,q.1 j u h1,h2,h3⟩
    match j with
    | 0=>cases hav;exact fin _ rfl rfl (.sc _)
    | 1=>cases hav;exact fin _ rfl rfl (.sc _)
    | 2=>cases hav;exact fin _ rfl rfl (.sc _)
    | 3=>cases hav;exact fin _ rfl rfl (.sc _)
    | 4=>cases hav;exact fin _ rfl rfl (.sc _)
    | 5=>cases hav;exact fin _ rfl rfl (Tt q.2.1 q.2.2 (fun _=>rfl) afV)
    | j+6=>simp [iq] at hav
  rw [hll]
  refine .ls 6 _ (some a) cap a (fun i j=>((l[i]?).bind fun x=>(kL x.1 x.2)[j]?).getD undef) (by rw [← hll];exact hl) (fun r hr=>?_) (fun _=>rfl) (fun i r j av hr hav=>?_) (fun i r j av hr hav=>?_)
  ·obtain ⟨x,_,rfl⟩:=List.mem_map.1 hr;rfl
  all_goals grind
end
section
variable {H:Type} {enc:TypeId×Value→H} {w:World} {base:Nat} {spare:Nat→Bool} {held:Bool}
theorem KG {α:Type} {T e:TypeId} {m n:Nat} {en:α→List AV} {v:Value} {x:DataW H×List MemPlace} (hu:Tryz.prog.underlying T=some (.slice e)) (hc:Tryz.prog.cellsOf e=m) (hlen:∀ a,(en a).length=m)
  (hel:∀ (k:Nat) (cs:List Value) (y:DataW H×List MemPlace),DataW.trod enc Tryz.prog w base spare held k e cs=some y→cs.length=m→∃ a:α,∀ (j:Nat) av u,(en a)[j]?=some av→cs[j]?=some u→u.oneCell'=true∧RP (fun q=>w.cell? q) av u)
  (h:DataW.trod enc Tryz.prog w base spare held n T [v]=some x):∃ l:List α,RP (fun q=>w.cell? q) (.ls m (l.map en)) v:=by
 rcases open_slice (P:=Tryz.prog) hu h with⟨h0,_⟩|⟨a,len,cap,mm,n',D,Pl,hcs,hb,hl,hm,hmm,_,hi⟩
 ·obtain rfl:v=.slice none 0 0:=by simpa using h0
  exact ⟨[],.ls m [] none 0 ⟨0,0,none⟩ (fun _ _=>undef) (by simp) (by simp) (fun h=>absurd h (by simp)) (fun i r j av h=>by simp at h) (fun i r j av h=>by simp at h)⟩
 ·obtain rfl:v=.slice (some a) len cap:=by simpa using hcs
  have hlm:len≤mm:=by rw [hmm];split<;>omega
  obtain ⟨l,hll,hq⟩:=xX (Q:=fun i (x:α×List Value)=>(∀ j,j<m→∃ u,x.2[j]?=some u∧w.cell? (a.add (i*m+j))=some u)∧∀ (j:Nat) av u,(en x.1)[j]?=some av→x.2[j]?=some u→u.oneCell'=true∧RP (fun q=>w.cell? q) av u) len (fun i hil=>by
   obtain ⟨cs',hc',ht'⟩:=hi i aj
   rw [hc] at hc'
   obtain ⟨_,hcl,hat⟩:=World.cells?_some hc'
   obtain ⟨b,hb2⟩:=hel _ _ _ ht' hcl
   refine ⟨(b,cs'),fun j hj=>?_,hb2⟩
   have:=hat j hj
   rw [add_of_add] at this
   exact ⟨cs'[j]'(by omega),aB _,by rw [this];exact aB _⟩)
  refine ⟨l.map (·.1),?_⟩
  have al1:len=((l.map (·.1)).map en).length:=by simp [hll]
  have key:∀ (i:Nat) r (j:Nat) av,((l.map (·.1)).map en)[i]?=some r→r[j]?=some av→∃ x u,l[i]?=some x∧x.2[j]?=some u∧w.cell? (a.add (i*m+j))=some u∧u.oneCell'=true∧RP (fun q=>w.cell? q) av u:=fun i r j av hr hav=>by
   rw [oC,bC] at hr
   cases hx:l[i]? with
   | none=>simp [hx] at hr
   | some x =>
    rw [hx] at hr
    obtain rfl:en x.1=r:=by simpa using hr
    obtain ⟨hkl,hkx⟩:=List.getElem?_eq_some_iff.1 hx
    have q:=hq i hkl
    rw [hkx] at q
    have hj:j<m:=by have:=(List.getElem?_eq_some_iff.1 hav).1;rw [hlen] at this;exact this
    obtain ⟨u,hu1,hu2⟩:=q.1 j hj
    obtain ⟨q1,q2⟩:=q.2 j av u hav hu1
    exact ⟨x,u,rfl,hu1,hu2,q1,q2⟩
  rw [al1]
  refine .ls m _ (some a) cap a (fun i j=>((l[i]?).bind fun x=>x.2[j]?).getD undef) (by rw [← al1];exact hl) (fun r hr=>?_) (fun _=>rfl) (fun i r j av hr hav=>?_) (fun i r j av hr hav=>?_)
  ·obtain ⟨x,_,rfl⟩:=List.mem_map.1 hr;exact hlen x
  ·obtain ⟨x,u,h1,h2,h3,h4,_⟩:=key i r j av hr hav
   simp only [h1,EU,h2,EO]
   exact ⟨h3,h4⟩
  ·obtain ⟨x,u,h1,h2,_,_,h5⟩:=key i r j av hr hav
   simp only [h1,EU,h2,EO]
   exact h5
end
end
section
open Go.RowKit
theorem zB (l al o:Int):Ctg jQ Tryz.prog 173 [.ag [.sc (.int .i64 l),.sc (.int .i64 al),.sc (.int .i64 o)]] (.tu [.sc (.int .i64 (Zm l al o)),.sc (.int .i64 (acC l al o))]):=by
 refine Ctg.intro iG Tryz.func173 rfl Tryz.ntmps173 (aP rfl) (aT rfl) fun w0 F0 hB=>?_;dsimp only [St.init,number,Nat.reduceAdd]
 have hc:(l < 0∨(¬ l < 0∧7≤l)∨(¬ l < 0∧¬ 7≤l∧al < -1)∨(¬ l < 0∧¬ 7≤l∧¬ al < -1∧1 < al)∨(¬ l < 0∧¬ 7≤l∧¬ al < -1∧¬ 1 < al∧o < -1)∨(¬ l < 0∧¬ 7≤l∧¬ al < -1∧¬ 1 < al∧¬ o < -1∧9 < o))∨qH l al o:=by unfold qH;omega
 rcases hc with hc|hc
 ·exact ai3
 ·obtain ⟨⟨h1,h2⟩,⟨h3,h4⟩,h5,h6⟩:=id hc
  have hbd:=JB ⟨h1,h2⟩
  have htab:=TQ ⟨h1,h2⟩
  have hin:=PU hc
  have hv:tC l al o=12*(o+1)+pI l+al:=rfl
  have hR:gX l al o=true→Zm l al o=12*(o+1)+pI l+al:=fun h=>(mW h).1
  obtain ⟨b,hb⟩:∃ b,pI l=b:=⟨_,rfl⟩
  rw [hb] at hbd htab hv hR
  refine Ut ?_
  refine iT ?_
  refine WW ?_
  refine DK.glob hB rfl rfl ⟨h1,by omega⟩ htab rfl ?_
  refine WW ?_
  exact aeJ
def jA (e:Ev):List AV:=[.sc (.bool e.bar),.sc (.int .i64 e.val),.sc (.bool e.dot),.sc (.bool e.three),.sc (.bool e.tie),.ow 69 5 (e.stops.map iI)]
theorem fz0(av:AV):av.fz 0=av:=by cases av<;>rfl
theorem aax (l:List (List AV)):(l.map fun r=>r.map (AV.fz 0))=l:=by
 refine (qO fun r _=>?_).trans (Jf _)
 exact (qO fun x _=>fz0 x).trans (Jf _)
theorem Ve (e:Ev):(jA e).map (AV.fz 1)=iq e:=by
 show [_,_,_,_,_,AV.ls 5 ((e.stops.map iI).map fun r=>r.map (AV.fz 0))]=_
 rw [aax];rfl
theorem GX (l:List Ev):((l.map jA).map fun r=>r.map (AV.fz 1))=l.map iq:=by
 rw [oC]
 exact qO fun e _=>Ve e
theorem Nv(l:List Stp):∀ q∈l.map iI,∀ av∈q,av.own=false:=fun q hq av hav=>by
 obtain⟨s,_,rfl⟩:=List.mem_map.1 hq
 simp only [iI,E8,yN,or_false]at hav
 rcases hav with rfl|rfl|rfl|rfl|rfl<;>rfl
theorem abK {d:Nat} {av:AV} (h:av.own=false):av.shal d=true:=by
 cases d<;>cases av<;>first|rfl|cases h
theorem y8 (l:List Ev):∀ r∈l.map jA,∀ av∈r,av.shal 1=true:=fun r hr av hav=>by
 obtain⟨e,_,rfl⟩:=List.mem_map.1 hr
 simp only [jA,E8,yN,or_false]at hav
 rcases hav with rfl|rfl|rfl|rfl|rfl|rfl
 ·rfl
 ·rfl
 ·rfl
 ·rfl
 ·rfl
 ·show ((e.stops.map iI).all fun r=>r.all (AV.shal 0))=true
  rw [jS]
  intro q hq
  rw [jS]
  exact fun x hx=>abK (Nv _ q hq x hx)
section
variable {P:Program} {C:Cx} {σ:St} {o:Oper} {d:Tmp} {av:AV} {ops:Array Oper} {rest:List Oper} {Q:Exit→St→Prop} {mem:List Bool} {Mc McB:List (Nat×AO)} {e0 nk0 k:Nat}
theorem DTK.mv {x:Operand} (hm:mem.getD k false=true) (hg:o.guard=none) (hds:o.dst=some d) (hdN:Nat.blt d C.N=true) (ho:o.op=.assign x) (hx:σ.ev x=some av) (hs:msSub Mc σ.M) (hsB:Nat.blt k e0=true→msSub McB σ.M)
  (r:DTK P C ops mem Mc McB e0 nk0 (k+1) rest (σ.put d av) Q):DTK P C ops mem Mc McB e0 nk0 k (o::rest) σ Q:=by
 have he:ent1 o.dst true av=[(d,av)]:=by rw [hds];rfl
 refine DTK.wr av hm (nG (Nat.le_refl _)) hs hsB ⟨hg,fun t H=>?_⟩ Qo
 rw [he]
 have hmem:x∈o.op.operands.toList:=by rw [ho];simp [Op.operands]
 exact WO.of_wv (σ:=⟨t,σ.M,σ.nk⟩) hds hdN (stepV_of ho (show stepV P ⟨t,σ.M,σ.nk⟩ (.assign x)=some av from (ev_agree H hmem).trans hx))
end
end
end Go.Proofs.YthohlofpphjofaaGreatDoor
