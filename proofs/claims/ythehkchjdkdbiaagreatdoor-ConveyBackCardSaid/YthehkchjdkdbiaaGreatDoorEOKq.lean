/- A piece among the arguments, as a tree. -/
import Derived.Test.YthehkchjdkdbiaaGreatDoorLTrnKq
set_option maxRecDepth 100000
set_option linter.unusedVariables false
set_option linter.unusedSimpArgs false
namespace Go.Proofs.YthehkchjdkdbiaaGreatDoor
theorem ajF {p:Prop}(h:p:=by rw [‹ys.length=_›];decide):p:=h
theorem akv {p:Prop}(h:p:=by
 obtain rfl:v=.slice none 0 0:=by simpa using h0
 exact⟨none,0,[],rfl,by simp,Rd.none_⟩):p:=h
section
open Go.RowKit Go.WideShapes Go.ChangeShapes Go.Joins Go.Deep
theorem IZ {α:Type} {Q:Nat→α→Prop}:∀ (n:Nat),(∀ i,i<n→∃ x,Q i x)→∃ l:List α,l.length=n∧∀ i (h:i<l.length),Q i l[i]:=by
 intro n
 induction n with
 | zero=>intro _;exact⟨[],rfl,fun i h=>absurd h (by simp)⟩
 | succ n ih =>
  intro h
  obtain⟨l,hl,hq⟩:=ih fun i hi=>h i au
  obtain⟨x,hx⟩:=h n au
  refine⟨l++[x],by simp [hl],fun i hi=>?_⟩
  by_cases e:i<l.length
  ·rw [Tf e];exact hq i e
  ·have:i=n:=by simp at hi;omega
   subst this
   rw [List.getElem_append_right (by omega)]
   simpa [hl]using hx
section
variable {H:Type} {enc:TypeId×Value→H} {P:Program} {w w':World} {base:Nat} {spare:Nat→Bool} {held:Bool}
theorem Bq:∀ {ts:List TypeId} {vs:List Value} {ds:List (DataW H)} {ps:List MemPlace},DataW.TrodAll enc P w base spare held ts vs ds ps→(∀ p∈ps,w.sameAt w' p)→DataW.TrodAll enc P w' base spare held ts vs ds ps
 | [],[],[],_,h,_=>h
 | _::_,_::_,_::_,_,⟨p,q,⟨n,h1⟩,h2,e⟩,hs=>⟨p,q,⟨n,DataW.trod_carry n _ _ _ h1 (fun x hx=>hs x (by rw [e];exact aaq _ hx))⟩,Bq h2 (fun x hx=>hs x (by rw [e];exact List.mem_append_right _ hx)),e⟩
theorem adp {W W':World} {T:TypeId→Prop} {sp:Nat→Bool} (K:Kids P T)(hz:∀ t e,T t→P.underlying t=some (.slice e)→0<P.cellsOf e) {ts:List TypeId} {vs:List Value} {ds:List (DataW H)} {ps:List MemPlace} (hT:∀ t∈ts,T t)
  (h:DataW.TrodAll enc P W 0 (fun _=>true) true ts vs ds ps)(hb:Below W.heap.size W W')(hlt:∀ p∈ps,p.block<W.heap.size)(hs:∀ p∈ps,sp p.block=true):DataW.TrodAll enc P W' 0 sp true ts vs ds ps :=
 DataW.TrodAll.respare K hz hT (Bq h fun p hp=>hb.same (hlt p hp)) hs
end
theorem afC:Kids Tryz.prog (·<Tryz.prog.types.size):=kids_rows (by kernel_rfl) (by kernel_rfl)
theorem ZY:∀ t e,t<Tryz.prog.types.size→Tryz.prog.underlying t=some (.slice e)→0<Tryz.prog.cellsOf e:=slices_full_of Tryz.prog (by kernel_rfl)
section
variable {H:Type} {enc:TypeId×Value→H} {w:World} {base:Nat} {spare:Nat→Bool} {held:Bool}
theorem Ux:Tryz.prog.cellsOf 117=3:=by kernel_rfl
theorem nS:Tryz.prog.cellsOf 3=1:=by kernel_rfl
theorem vW:Tryz.prog.cellsOf 4=1:=by kernel_rfl
theorem Dq:Tryz.prog.cellsOf 24=1:=by kernel_rfl
theorem Oz:Tryz.prog.cellsOf 25=1:=by kernel_rfl
theorem Iu:Tryz.prog.cellsOf 27=2:=by kernel_rfl
theorem RZ {n:Nat} {v:Value} {x:DataW H×List MemPlace} (h:DataW.trod enc Tryz.prog w base spare held n 24 [v]=some x) :
    ∃ (A:Option Addr)(c:Nat)(cs:List (Int×Int×Bool)),v=.slice A cs.length c∧cs.length≤maxLen∧Rd w w.heap.size 3 A (cs.map fG):=by
  rcases open_slice (P:=Tryz.prog) Tryz.underlying24 h with⟨h0,_⟩|⟨a,len,cap,m,n',D,Pl,hcs,hb,hl,hm,hmm,_,hi⟩
  · exact akv
  · obtain rfl:v=.slice (some a) len cap:=by simpa using hcs
    have hlm:len≤m:=by rw [hmm];split <;> omega
    obtain⟨cs,hlen,hq⟩:=IZ (Q:=fun i (x:Int×Int×Bool) => w.cell? (a.add (i*3))=some (.int .i64 x.1)∧w.cell? (a.add (i*3+1))=some (.int .i64 x.2.1)∧w.cell? (a.add (i*3+2))=some (.bool x.2.2)) len (fun i hil => by
      obtain⟨cs',hc,ht'⟩:=hi i au
      rw [Ux] at hc
      obtain⟨ys,n2,_,_,hlen,_,hf⟩:=DataW.trod_struct Tryz.underlying117 ht'
      obtain⟨_,hcl,hat⟩:=World.cells?_some hc
      match cs',hcl with
      | [u0,u1,u2],_ =>
        have f0:DataW.trod enc Tryz.prog w base spare held n2 3 [u0]=ys[0]?:=by simpa [nS] using hf 0 _ rfl
        have f1:DataW.trod enc Tryz.prog w base spare held n2 3 [u1]=ys[1]?:=by simpa [nS] using hf 1 _ rfl
        have f2:DataW.trod enc Tryz.prog w base spare held n2 4 [u2]=ys[2]?:=by simpa [vW] using hf 2 _ rfl
        have g0:=hat 0 au
        have g1:=hat 1 au
        have g2:=hat 2 au
        simp only [kW,zJ,List.getElem?_cons_zero,List.getElem?_cons_succ] at g0 g1 g2
        obtain⟨y0,hy0⟩:∃ y,ys[0]?=some y :=⟨_,aI ajF⟩
        obtain⟨y1,hy1⟩:∃ y,ys[1]?=some y :=⟨_,aI ajF⟩
        obtain⟨y2,hy2⟩:∃ y,ys[2]?=some y :=⟨_,aI ajF⟩
        rw [hy0] at f0;rw [hy1] at f1;rw [hy2] at f2
        obtain⟨a0,e0,_,_⟩:=DataW.trod_int Tryz.underlying3 f0
        obtain⟨a1,e1,_,_⟩:=DataW.trod_int Tryz.underlying3 f1
        obtain⟨a2,e2,_⟩:=DataW.trod_bool Tryz.underlying4 f2
        simp only [List.cons.injEq,and_true] at e0 e1 e2
        subst e0 e1 e2
        exact⟨(a0,a1,a2),g0,g1,g2⟩)
    refine⟨some a,cap,cs,by rw [hlen],by omega,fun hpos =>⟨a,rfl,?_,?_⟩⟩
    · have hpos':0<cs.length:=by simpa using hpos
      have:=(hq 0 hpos').1
      have:=World.block_lt_of_cell? w _ this
      rwa [bW] at this
    · intro k r hr j u hu
      rw [bT] at hr
      cases hk:cs[k]? with
      | none => rw [hk] at hr;cases hr
      | some x =>
        rw [hk] at hr
        obtain rfl:fG x=r:=by simpa using hr
        obtain⟨hkl,hkx⟩:=List.getElem?_eq_some_iff.1 hk
        have q:=hq k hkl
        rw [hkx] at q
        match j with
        | 0 => obtain rfl:Value.int .i64 x.1=u:=by simpa [fG] using hu
               simpa using q.1
        | 1 => obtain rfl:Value.int .i64 x.2.1=u:=by simpa [fG] using hu
               exact q.2.1
        | 2 => obtain rfl:Value.bool x.2.2=u:=by simpa [fG] using hu
               exact q.2.2
        | j+3 => simp [fG] at hu
theorem open_ints {n:Nat} {v:Value} {x:DataW H×List MemPlace} (h:DataW.trod enc Tryz.prog w base spare held n 25 [v]=some x) :
    ∃ (A:Option Addr)(c:Nat)(st:List Int),v=.slice A st.length c∧st.length≤maxLen∧Rd w w.heap.size 1 A (st.map jy):=by
  rcases open_slice1 (P:=Tryz.prog) Tryz.underlying25 nS h with⟨h0,_⟩|⟨a,len,cap,m,n',V,D,Pl,hcs,hb,hl,hm,hmm,_,hi⟩
  · exact akv
  · obtain rfl:v=.slice (some a) len cap:=by simpa using hcs
    have hlm:len≤m:=by rw [hmm];split <;> omega
    obtain⟨st,hlen,hq⟩:=IZ (Q:=fun i (x:Int) => w.cell? (a.add i)=some (.int .i64 x)) len (fun i hil => by
      obtain⟨hc,ht'⟩:=hi i au
      obtain⟨a0,e0,_,_⟩:=DataW.trod_int Tryz.underlying3 ht'
      simp only [List.cons.injEq,and_true] at e0
      exact⟨a0,by rw [hc,e0]⟩)
    refine⟨some a,cap,st,by rw [hlen],by omega,fun hpos =>⟨a,rfl,?_,?_⟩⟩
    · have hpos':0<st.length:=by simpa using hpos
      have:=World.block_lt_of_cell? w _ (hq 0 hpos')
      rwa [bW] at this
    · intro k r hr j u hu
      rw [bT] at hr
      cases hk:st[k]? with
      | none => rw [hk] at hr;cases hr
      | some x =>
        rw [hk] at hr
        obtain rfl:jy x=r:=by simpa using hr
        obtain⟨hkl,hkx⟩:=List.getElem?_eq_some_iff.1 hk
        have q:=hq k hkl
        rw [hkx] at q
        match j with
        | 0 => obtain rfl:Value.int .i64 x=u:=by simpa [jy] using hu
               simpa using q
        | j+1 => simp [jy] at hu
theorem ah4 {n:Nat} {v0 v1:Value} {x:DataW H×List MemPlace} (h:DataW.trod enc Tryz.prog w base spare held n 27 [v0,v1]=some x) :
  ∃ (A1 A2:Option Addr)(c1 c2:Nat)(cs:List (Int×Int×Bool))(st:List Int),v0=.slice A1 cs.length c1∧v1=.slice A2 st.length c2∧cs.length≤maxLen∧st.length≤maxLen∧jq w w.heap.size A1 A2 cs st:=by
 obtain⟨ys,n2,_,_,_,hys,hf⟩:=DataW.trod_struct Tryz.underlying27 h
 have f0:DataW.trod enc Tryz.prog w base spare held n2 24 [v0]=ys[0]?:=by simpa [Dq]using hf 0 _ rfl
 have f1:DataW.trod enc Tryz.prog w base spare held n2 25 [v1]=ys[1]?:=by simpa [Oz]using hf 1 _ rfl
 obtain⟨y0,hy0⟩:∃ y,ys[0]?=some y:=⟨_,aI (by rw [hys];decide)⟩
 obtain⟨y1,hy1⟩:∃ y,ys[1]?=some y:=⟨_,aI (by rw [hys];decide)⟩
 rw [hy0]at f0;rw [hy1]at f1
 obtain⟨A1,c1,cs,e1,l1,r1⟩:=RZ f0
 obtain⟨A2,c2,st,e2,l2,r2⟩:=open_ints f1
 exact⟨A1,A2,c1,c2,cs,st,e1,e2,l1,l2,r1,r2⟩
end
section
variable {H:Type} {enc:TypeId×Value→H} {w:World} {base:Nat} {spare:Nat→Bool} {held:Bool}
theorem Yg:Tryz.prog.cellsOf 69=5:=by kernel_rfl
theorem Yd:Tryz.prog.cellsOf 90=6:=by kernel_rfl
theorem Yf:Tryz.prog.cellsOf 87=3:=by kernel_rfl
theorem Yh:Tryz.prog.cellsOf 88=1:=by kernel_rfl
theorem Uy:Tryz.prog.cellsOf 28=1:=by kernel_rfl
theorem Ye:Tryz.prog.cellsOf 30=3:=by kernel_rfl
theorem Zu {n:Nat} {v:Value} {x:DataW H×List MemPlace} (h:DataW.trod enc Tryz.prog w base spare held n 88 [v]=some x) :
  ∃ (A:Option Addr)(c:Nat)(l:List Stp),v=.slice A l.length c∧l.length≤c∧c≤maxLen∧iG w w.heap.size A l:=by
 rcases open_slice (P:=Tryz.prog) Tryz.underlying88 h with⟨h0,_⟩|⟨a,len,cap,m,n',D,Pl,hcs,hb,hl,hm,hmm,_,hi⟩
 ·obtain rfl:v=.slice none 0 0:=by simpa using h0
  exact⟨none,0,[],rfl,by simp,by simp,Rd.none_⟩
 ·obtain rfl:v=.slice (some a) len cap:=by simpa using hcs
  have hlm:len≤m:=by rw [hmm];split<;>omega
  obtain⟨l,hlen,hq⟩:=IZ (Q:=fun i (x:Stp)=>∀ j u,(tZ x)[j]?=some u→w.cell? (a.add (i*5+j))=some u) len (fun i hil=>by
   obtain⟨cs',hc,ht'⟩:=hi i au
   rw [Yg] at hc
   obtain⟨ys,n2,_,_,hlen,hys,hf⟩:=DataW.trod_struct Tryz.underlying69 ht'
   obtain⟨_,hcl,hat⟩:=World.cells?_some hc
   match cs',hcl with
   | [u0,u1,u2,u3,u4],_ =>
    have f0:DataW.trod enc Tryz.prog w base spare held n2 3 [u0]=ys[0]?:=by simpa [nS] using hf 0 _ rfl
    have f1:DataW.trod enc Tryz.prog w base spare held n2 3 [u1]=ys[1]?:=by simpa [nS] using hf 1 _ rfl
    have f2:DataW.trod enc Tryz.prog w base spare held n2 3 [u2]=ys[2]?:=by simpa [nS] using hf 2 _ rfl
    have f3:DataW.trod enc Tryz.prog w base spare held n2 3 [u3]=ys[3]?:=by simpa [nS] using hf 3 _ rfl
    have f4:DataW.trod enc Tryz.prog w base spare held n2 3 [u4]=ys[4]?:=by simpa [nS] using hf 4 _ rfl
    have gy:∀ j,j<5→∃ y,ys[j]?=some y:=fun j hj=>⟨_,aI (by rw [hys];exact hj)⟩
    obtain⟨y0,hy0⟩:=gy 0 au
    obtain⟨y1,hy1⟩:=gy 1 au
    obtain⟨y2,hy2⟩:=gy 2 au
    obtain⟨y3,hy3⟩:=gy 3 au
    obtain⟨y4,hy4⟩:=gy 4 au
    rw [hy0] at f0;rw [hy1] at f1;rw [hy2] at f2;rw [hy3] at f3;rw [hy4] at f4
    obtain⟨a0,e0,_,_⟩:=DataW.trod_int Tryz.underlying3 f0
    obtain⟨a1,e1,_,_⟩:=DataW.trod_int Tryz.underlying3 f1
    obtain⟨a2,e2,_,_⟩:=DataW.trod_int Tryz.underlying3 f2
    obtain⟨a3,e3,_,_⟩:=DataW.trod_int Tryz.underlying3 f3
    obtain⟨a4,e4,_,_⟩:=DataW.trod_int Tryz.underlying3 f4
    simp only [List.cons.injEq,and_true] at e0 e1 e2 e3 e4
    subst e0 e1 e2 e3 e4
    refine⟨(a0,a1,a2,a3,a4),fun j u hu=>?_⟩
    have hj:j<5:=(List.getElem?_eq_some_iff.1 hu).1
    have:=hat j hj
    rw [kW] at this
    rw [this]
    exact hu)
  refine⟨some a,cap,l,by rw [hlen],by omega,hm,fun hpos=>⟨a,rfl,?_,?_⟩⟩
  ·have hpos':0<l.length:=by simpa using hpos
   have:=World.block_lt_of_cell? w _ (hq 0 hpos' 0 _ rfl)
   rwa [bW] at this
  ·intro k r hr j u hu
   rw [bT] at hr
   cases hk:l[k]? with
   | none=>rw [hk] at hr;cases hr
   | some x =>
    rw [hk] at hr
    obtain rfl:tZ x=r:=by simpa using hr
    obtain⟨hkl,hkx⟩:=List.getElem?_eq_some_iff.1 hk
    have q:=hq k hkl
    rw [hkx] at q
    exact q j u hu
end
theorem ZP {α:Type} {w:World} {n:Nat} {l:List α} {e:α→List AV} {f:α→List Value} {A:Option Addr} {c B:Nat} (hr:Rd w B n A (l.map f)) (hc:l.length≤c)
  (hf:∀ x,(e x).length=n) (hef:∀ x (j:Nat) av,(e x)[j]?=some av→∃ u,av=.sc u∧(f x)[j]?=some u∧u.oneCell'=true):RP (fun q=>w.cell? q) (.ls n (l.map e)) (.slice A l.length c):=by
 have hcell:∀ ad,A=some ad→∀ (k:Nat) x,l[k]?=some x→∀ (j:Nat) u,(f x)[j]?=some u→w.cell? (ad.add (k*n+j))=some u:=fun ad had k x hk j u hu=>by
  have hl:0<(l.map f).length:=by have:=(List.getElem?_eq_some_iff.1 hk).1;simp;omega
  obtain ⟨ad',e',_,h2⟩:=hr hl
  rw [had] at e'
  cases e'
  exact h2 k (f x) (by rw [bT,hk];rfl) j u hu
 have key:∀ (i:Nat) r (j:Nat) av,(l.map e)[i]?=some r→r[j]?=some av→∃ x u,l[i]?=some x∧av=.sc u∧(f x)[j]?=some u∧u.oneCell'=true:=fun i r j av hr' hav=>by
  exact arb
 have hlen:l.length=(l.map e).length:=by simp
 rw [hlen]
 refine .ls n (l.map e) A c (A.getD ⟨0,0,none⟩) (fun i j=>((l[i]?).bind fun x=>(f x)[j]?).getD undef) (by simpa using hc) (fun r hr'=>?_) (fun hp=>?_) (fun i r j av hr' hav=>?_) (fun i r j av hr' hav=>?_)
 ·obtain ⟨x,_,rfl⟩:=List.mem_map.1 hr';exact hf x
 ·obtain ⟨ad,e',_⟩:=hr (by simpa using hp)
  rw [e'];rfl
 ·exact aq8
 ·exact ake
theorem amW(x:Stp)(j:Nat)(av:AV)(h:(aC x)[j]?=some av):∃ u,av=.sc u∧(tZ x)[j]?=some u∧u.oneCell'=true:=by
 match j with
 | 0=>cases h;exact⟨_,rfl,rfl,rfl⟩
 | 1=>cases h;exact⟨_,rfl,rfl,rfl⟩
 | 2=>cases h;exact⟨_,rfl,rfl,rfl⟩
 | 3=>cases h;exact⟨_,rfl,rfl,rfl⟩
 | 4=>cases h;exact⟨_,rfl,rfl,rfl⟩
 | j+5=>simp [aC]at h
section
variable {H:Type} {enc:TypeId×Value→H} {w:World} {base:Nat} {spare:Nat→Bool} {held:Bool}
theorem Gu {n k c:Nat} {T e:TypeId} {A:Option Addr} {x:DataW H×List MemPlace} (hu:Tryz.prog.underlying T=some (.slice e))(h:DataW.trod enc Tryz.prog w base spare held n T [.slice A k c]=some x):k≤c:=by
 rcases open_slice (P:=Tryz.prog) hu h with⟨h0,_⟩|⟨a,len,cap,m,n',D,Pl,hcs,hb,hl,hm,hmm,_,hi⟩
 ·simp at h0;omega
 ·simp at hcs;omega
theorem Ky {n:Nat} {v:Value} {x:DataW H×List MemPlace} (h:DataW.trod enc Tryz.prog w base spare held n 28 [v]=some x) :
  ∃ evs:List Ev,RP (fun q=>w.cell? q) (.ls 6 (evs.map dI)) v:=by
 rcases open_slice (P:=Tryz.prog) Tryz.underlying28 h with⟨h0,_⟩|⟨a,len,cap,m,n',D,Pl,hcs,hb,hl,hm,hmm,_,hi⟩
 ·obtain rfl:v=.slice none 0 0:=by simpa using h0
  exact ⟨[],.ls 6 [] none 0 ⟨0,0,none⟩ (fun _ _=>undef) (by simp) (by simp) (fun h=>absurd h (by simp)) (fun i r j av h=>by simp at h) (fun i r j av h=>by simp at h)⟩
 ·obtain rfl:v=.slice (some a) len cap:=by simpa using hcs
  have hlm:len≤m:=by rw [hmm];split<;>omega
  obtain ⟨l,hlen,hq⟩:=IZ (Q:=fun i (x:Ev×(Option Addr×Nat))=>(∀ j u,(qg x.1 x.2)[j]?=some u→w.cell? (a.add (i*6+j))=some u)∧iG w w.heap.size x.2.1 x.1.stops∧x.1.stops.length≤x.2.2) len (fun i hil=>by
   obtain ⟨cs',hc,ht'⟩:=hi i au
   rw [Yd] at hc
   obtain ⟨ys,n2,_,_,hlen,hys,hf⟩:=DataW.trod_struct Tryz.underlying90 ht'
   obtain ⟨_,hcl,hat⟩:=World.cells?_some hc
   match cs',hcl with
   | [u0,u1,u2,u3,u4,u5],_ =>
    have f0:DataW.trod enc Tryz.prog w base spare held n2 4 [u0]=ys[0]?:=by simpa [vW] using hf 0 _ rfl
    have f1:DataW.trod enc Tryz.prog w base spare held n2 87 [u1,u2,u3]=ys[1]?:=by simpa [Yf] using hf 1 _ rfl
    have f2:DataW.trod enc Tryz.prog w base spare held n2 4 [u4]=ys[2]?:=by simpa [vW] using hf 2 _ rfl
    have f3:DataW.trod enc Tryz.prog w base spare held n2 88 [u5]=ys[3]?:=by simpa [Yh] using hf 3 _ rfl
    have gy:∀ j,j<4→∃ y,ys[j]?=some y:=fun j hj=>⟨_,aI (by rw [hys];exact hj)⟩
    obtain ⟨y0,hy0⟩:=gy 0 au
    obtain ⟨y1,hy1⟩:=gy 1 au
    obtain ⟨y2,hy2⟩:=gy 2 au
    obtain ⟨y3,hy3⟩:=gy 3 au
    rw [hy0] at f0;rw [hy1] at f1;rw [hy2] at f2;rw [hy3] at f3
    obtain ⟨zs,n3,_,_,_,hzs,hg⟩:=DataW.trod_struct Tryz.underlying87 f1
    have s0:DataW.trod enc Tryz.prog w base spare held n3 3 [u1]=zs[0]?:=by simpa [nS] using hg 0 _ rfl
    have s1:DataW.trod enc Tryz.prog w base spare held n3 4 [u2]=zs[1]?:=by simpa [vW] using hg 1 _ rfl
    have s2:DataW.trod enc Tryz.prog w base spare held n3 4 [u3]=zs[2]?:=by simpa [vW] using hg 2 _ rfl
    have gz:∀ j,j<3→∃ y,zs[j]?=some y:=fun j hj=>⟨_,aI (by rw [hzs];exact hj)⟩
    obtain ⟨z0,hz0⟩:=gz 0 au
    obtain ⟨z1,hz1⟩:=gz 1 au
    obtain ⟨z2,hz2⟩:=gz 2 au
    rw [hz0] at s0;rw [hz1] at s1;rw [hz2] at s2
    obtain ⟨b0,e0,_⟩:=DataW.trod_bool Tryz.underlying4 f0
    obtain ⟨b1,e1,_,_⟩:=DataW.trod_int Tryz.underlying3 s0
    obtain ⟨b2,e2,_⟩:=DataW.trod_bool Tryz.underlying4 s1
    obtain ⟨b3,e3,_⟩:=DataW.trod_bool Tryz.underlying4 s2
    obtain ⟨b4,e4,_⟩:=DataW.trod_bool Tryz.underlying4 f2
    obtain ⟨S,c,l,e5,hlc,_,hS⟩:=Zu f3
    simp only [List.cons.injEq,and_true] at e0 e1 e2 e3 e4
    subst e0 e1 e2 e3 e4 e5
    refine ⟨(⟨b0,b1,b2,b3,b4,l⟩,(S,c)),fun j u hu=>?_,hS,hlc⟩
    have hj:j<6:=(List.getElem?_eq_some_iff.1 hu).1
    have:=hat j hj
    rw [kW] at this
    rw [this]
    exact hu)
  refine ⟨l.map (·.1),?_⟩
  have hll:len=((l.map (·.1)).map dI).length:=by simp [hlen]
  have key:∀ (i:Nat) r (j:Nat) av,((l.map (·.1)).map dI)[i]?=some r→r[j]?=some av→∃ x u,l[i]?=some x∧(qg x.1 x.2)[j]?=some u∧w.cell? (a.add (i*6+j))=some u∧u.oneCell'=true∧RP (fun q=>w.cell? q) av u:=fun i r j av hr hav=>by
   rw [oO,bT] at hr
   cases hx:l[i]? with
   | none=>simp [hx] at hr
   | some x =>
    rw [hx] at hr
    obtain rfl:dI x.1=r:=by simpa using hr
    obtain ⟨hkl,hkx⟩:=List.getElem?_eq_some_iff.1 hx
    have q:=hq i hkl
    rw [hkx] at q
    have fin:∀ u,(qg x.1 x.2)[j]?=some u→u.oneCell'=true→RP (fun q=>w.cell? q) av u→∃ x' u,some x=some x'∧(qg x'.1 x'.2)[j]?=some u∧w.cell? (a.add (i*6+j))=some u∧u.oneCell'=true∧RP (fun q=>w.cell? q) av u:=fun u h1 h2 h3=>⟨x,u,rfl,h1,q.1 j u h1,h2,h3⟩
    match j with
    | 0=>cases hav;exact fin _ rfl rfl (.sc _)
    | 1=>cases hav;exact fin _ rfl rfl (.sc _)
    | 2=>cases hav;exact fin _ rfl rfl (.sc _)
    | 3=>cases hav;exact fin _ rfl rfl (.sc _)
    | 4=>cases hav;exact fin _ rfl rfl (.sc _)
    | 5=>cases hav;exact fin _ rfl rfl (ZP q.2.1 q.2.2 (fun _=>rfl) amW)
    | j+6=>simp [dI] at hav
  rw [hll]
  refine .ls 6 _ (some a) cap a (fun i j=>((l[i]?).bind fun x=>(qg x.1 x.2)[j]?).getD undef) (by rw [← hll];exact hl) (fun r hr=>?_) (fun _=>rfl) (fun i r j av hr hav=>?_) (fun i r j av hr hav=>?_)
  ·obtain ⟨x,_,rfl⟩:=List.mem_map.1 hr;rfl
  ·obtain ⟨x,u,h1,h2,h3,h4,_⟩:=key i r j av hr hav
   simp only [h1,Ib,h2,Ti]
   exact ⟨h3,h4⟩
  ·obtain ⟨x,u,h1,h2,_,_,h5⟩:=key i r j av hr hav
   simp only [h1,Ib,h2,Ti]
   exact h5
theorem Oc {r:Reach} {b0:Nat} {v:Value} {d:DataW H} {p:List MemPlace} (hv:Value.okWide Tryz.prog w r b0 30 v) (h:DataW.Trod enc Tryz.prog w base spare held 30 v d p) :
  ∃ pc:aS,RP (fun q=>w.cell? q) (bK pc) v:=by
 obtain ⟨cs,rfl,hsz⟩:=okWide_struct Tryz.underlying30 hv
 obtain ⟨l⟩:=cs
 match l,hsz.trans Ye with
 | [c0,c1,c2],_ =>
  obtain ⟨fuel,hf⟩:=h
  obtain ⟨ys,n2,_,_,_,hys,hg⟩:=DataW.trod_struct Tryz.underlying30 (by simpa [Value.cells] using hf:DataW.trod enc Tryz.prog w base spare held fuel 30 [c0,c1,c2]=some (d,p))
  have f0:DataW.trod enc Tryz.prog w base spare held n2 27 [c0,c1]=ys[0]?:=by simpa [Iu] using hg 0 _ rfl
  have f1:DataW.trod enc Tryz.prog w base spare held n2 28 [c2]=ys[1]?:=by simpa [Uy] using hg 1 _ rfl
  obtain ⟨y0,hy0⟩:∃ y,ys[0]?=some y:=⟨_,aI (by rw [hys];decide)⟩
  obtain ⟨y1,hy1⟩:∃ y,ys[1]?=some y:=⟨_,aI (by rw [hys];decide)⟩
  rw [hy0] at f0;rw [hy1] at f1
  obtain ⟨zs,n3,_,_,_,hzs,hz⟩:=DataW.trod_struct Tryz.underlying27 f0
  have g0:DataW.trod enc Tryz.prog w base spare held n3 24 [c0]=zs[0]?:=by simpa [Dq] using hz 0 _ rfl
  have g1:DataW.trod enc Tryz.prog w base spare held n3 25 [c1]=zs[1]?:=by simpa [Oz] using hz 1 _ rfl
  obtain ⟨z0,hz0⟩:∃ y,zs[0]?=some y:=⟨_,aI (by rw [hzs];decide)⟩
  obtain ⟨z1,hz1⟩:∃ y,zs[1]?=some y:=⟨_,aI (by rw [hzs];decide)⟩
  rw [hz0] at g0;rw [hz1] at g1
  obtain ⟨A1,A2,k1,k2,cs,st,rfl,rfl,l1,l2,hI⟩:=ah4 f0
  obtain ⟨evs,hE⟩:=Ky f1
  have hc1:=Gu Tryz.underlying24 g0
  have hc2:=Gu Tryz.underlying25 g1
  refine ⟨⟨cs,st,evs⟩,.ag _ _ rfl fun i av u a b=>?_⟩
  match i with
  | 0=>cases a;cases b;exact ZP hI.1 hc1 (fun _=>rfl) abe
  | 1=>cases a;cases b;exact ZP hI.2 hc2 (fun _=>rfl) Q5
  | 2=>cases a;cases b;exact hE
  | i+3=>simp at a
end
end
end Go.Proofs.YthehkchjdkdbiaaGreatDoor
