/- Arguments that are lists of notes on a staff, of numbers, or a book, as trees. -/
import Derived.Test.YtkgnmddakiagbaaGreatDoorW11Wq
set_option linter.unusedVariables false
set_option linter.unusedSimpArgs false
namespace Go.Proofs.YtkgnmddakiagbaaGreatDoor
open Go.RowKit Go.WideShapes Go.ChangeShapes Go.Joins Go.Deep
set_option maxRecDepth 100000
theorem rp_mem {α:Type} {w:World} {n:Nat} {l:List α} {e:α→List AV} {f:α→List Value} {A:Option Addr} {c B:Nat} (hr:Rd w B n A (l.map f)) (hc:l.length≤c)
  (hf:∀ x,(e x).length=n) (hef:∀ x (j:Nat) av,(e x)[j]?=some av→∃ u,av=.sc u∧(f x)[j]?=some u∧u.oneCell'=true):RP (fun q=>w.cell? q) (.ls n (l.map e)) (.slice A l.length c):=by
 have hcell:∀ ad,A=some ad→∀ (k:Nat) x,l[k]?=some x→∀ (j:Nat) u,(f x)[j]?=some u→w.cell? (ad.add (k*n+j))=some u:=fun ad had k x hk j u hu=>by
  have hl:0<(l.map f).length:=by have:=(List.getElem?_eq_some_iff.1 hk).1;simp;omega
  obtain ⟨ad',e',_,h2⟩:=hr hl
  rw [had] at e'
  cases e'
  exact h2 k (f x) (by rw [List.getElem?_map,hk];rfl) j u hu
 have key:∀ (i:Nat) r (j:Nat) av,(l.map e)[i]?=some r→r[j]?=some av→∃ x u,l[i]?=some x∧av=.sc u∧(f x)[j]?=some u∧u.oneCell'=true:=fun i r j av hr' hav=>by
  rw [List.getElem?_map] at hr'
  cases hx:l[i]? with
  | none=>simp [hx] at hr'
  | some x =>
   rw [hx] at hr'
   obtain rfl:e x=r:=by simpa using hr'
   obtain ⟨u,a,b,c⟩:=hef x j av hav
   exact ⟨x,u,rfl,a,b,c⟩
 have hlen:l.length=(l.map e).length:=by simp
 rw [hlen]
 refine .ls n (l.map e) A c (A.getD ⟨0,0,none⟩) (fun i j=>((l[i]?).bind fun x=>(f x)[j]?).getD undef) (by simpa using hc) (fun r hr'=>?_) (fun hp=>?_) (fun i r j av hr' hav=>?_) (fun i r j av hr' hav=>?_)
 ·obtain ⟨x,_,rfl⟩:=List.mem_map.1 hr';exact hf x
 ·obtain ⟨ad,e',_⟩:=hr (by simpa using hp)
  rw [e'];rfl
 ·obtain ⟨x,u,h1,h2,h3,h4⟩:=key i r j av hr' hav
  obtain ⟨ad,e',_⟩:=hr (by have:=(List.getElem?_eq_some_iff.1 h1).1;simp;omega)
  simp only [h1,Option.bind_some,h3,Option.getD_some]
  rw [e']
  exact ⟨hcell ad e' i x h1 j u h3,h4⟩
 ·obtain ⟨x,u,h1,h2,h3,h4⟩:=key i r j av hr' hav
  simp only [h1,Option.bind_some,h3,Option.getD_some,h2]
  exact .sc u
theorem eStp_of (x:Stp) (j:Nat) (av:AV) (h:(eStp x)[j]?=some av):∃ u,av=.sc u∧(stpCells x)[j]?=some u∧u.oneCell'=true:=by
 match j with
 | 0=>cases h;exact ⟨_,rfl,rfl,rfl⟩
 | 1=>cases h;exact ⟨_,rfl,rfl,rfl⟩
 | 2=>cases h;exact ⟨_,rfl,rfl,rfl⟩
 | 3=>cases h;exact ⟨_,rfl,rfl,rfl⟩
 | 4=>cases h;exact ⟨_,rfl,rfl,rfl⟩
 | j+5=>simp [eStp] at h
section
variable {H:Type} {enc:TypeId×Value→H} {w:World} {base:Nat} {spare:Nat→Bool} {held:Bool}
theorem cap_of_trod {n k c:Nat} {T e:TypeId} {A:Option Addr} {x:DataW H×List MemPlace} (hu:Tryz.prog.underlying T=some (.slice e)) (h:DataW.trod enc Tryz.prog w base spare held n T [.slice A k c]=some x):k≤c:=by
 rcases open_slice (P:=Tryz.prog) hu h with⟨h0,_⟩|⟨a,len,cap,m,n',D,Pl,hcs,hb,hl,hm,hmm,_,hi⟩
 ·simp at h0;omega
 ·simp at hcs;omega
theorem open_events_rp {n:Nat} {v:Value} {x:DataW H×List MemPlace} (h:DataW.trod enc Tryz.prog w base spare held n 27 [v]=some x) :
  ∃ evs:List Ev,RP (fun q=>w.cell? q) (.ls 6 (evs.map eEv)) v:=by
 rcases open_slice (P:=Tryz.prog) Tryz.underlying27 h with⟨h0,_⟩|⟨a,len,cap,m,n',D,Pl,hcs,hb,hl,hm,hmm,_,hi⟩
 ·obtain rfl:v=.slice none 0 0:=by simpa using h0
  exact ⟨[],.ls 6 [] none 0 ⟨0,0,none⟩ (fun _ _=>undef) (by simp) (by simp) (fun h=>absurd h (by simp)) (fun i r j av h=>by simp at h) (fun i r j av h=>by simp at h)⟩
 ·obtain rfl:v=.slice (some a) len cap:=by simpa using hcs
  have hlm:len≤m:=by rw [hmm];split<;>omega
  obtain ⟨l,hlen,hq⟩:=list_of (Q:=fun i (x:Ev×(Option Addr×Nat))=>(∀ j u,(evCells x.1 x.2)[j]?=some u→w.cell? (a.add (i*6+j))=some u)∧StpsAt w w.heap.size x.2.1 x.1.stops∧x.1.stops.length≤x.2.2) len (fun i hil=>by
   obtain ⟨cs',hc,ht'⟩:=hi i (by omega)
   rw [cellsEvent] at hc
   obtain ⟨ys,n2,_,_,hlen,hys,hf⟩:=DataW.trod_struct Tryz.underlying78 ht'
   obtain ⟨_,hcl,hat⟩:=World.cells?_some hc
   match cs',hcl with
   | [u0,u1,u2,u3,u4,u5],_ =>
    have f0:DataW.trod enc Tryz.prog w base spare held n2 4 [u0]=ys[0]?:=by simpa [cellsBool] using hf 0 _ rfl
    have f1:DataW.trod enc Tryz.prog w base spare held n2 75 [u1,u2,u3]=ys[1]?:=by simpa [cellsSign'] using hf 1 _ rfl
    have f2:DataW.trod enc Tryz.prog w base spare held n2 4 [u4]=ys[2]?:=by simpa [cellsBool] using hf 2 _ rfl
    have f3:DataW.trod enc Tryz.prog w base spare held n2 76 [u5]=ys[3]?:=by simpa [cellsStops] using hf 3 _ rfl
    have gy:∀ j,j<4→∃ y,ys[j]?=some y:=fun j hj=>⟨_,List.getElem?_eq_getElem (by rw [hys];exact hj)⟩
    obtain ⟨y0,hy0⟩:=gy 0 (by omega)
    obtain ⟨y1,hy1⟩:=gy 1 (by omega)
    obtain ⟨y2,hy2⟩:=gy 2 (by omega)
    obtain ⟨y3,hy3⟩:=gy 3 (by omega)
    rw [hy0] at f0;rw [hy1] at f1;rw [hy2] at f2;rw [hy3] at f3
    obtain ⟨zs,n3,_,_,_,hzs,hg⟩:=DataW.trod_struct Tryz.underlying75 f1
    have s0:DataW.trod enc Tryz.prog w base spare held n3 3 [u1]=zs[0]?:=by simpa [cellsInt] using hg 0 _ rfl
    have s1:DataW.trod enc Tryz.prog w base spare held n3 4 [u2]=zs[1]?:=by simpa [cellsBool] using hg 1 _ rfl
    have s2:DataW.trod enc Tryz.prog w base spare held n3 4 [u3]=zs[2]?:=by simpa [cellsBool] using hg 2 _ rfl
    have gz:∀ j,j<3→∃ y,zs[j]?=some y:=fun j hj=>⟨_,List.getElem?_eq_getElem (by rw [hzs];exact hj)⟩
    obtain ⟨z0,hz0⟩:=gz 0 (by omega)
    obtain ⟨z1,hz1⟩:=gz 1 (by omega)
    obtain ⟨z2,hz2⟩:=gz 2 (by omega)
    rw [hz0] at s0;rw [hz1] at s1;rw [hz2] at s2
    obtain ⟨b0,e0,_⟩:=DataW.trod_bool Tryz.underlying4 f0
    obtain ⟨b1,e1,_,_⟩:=DataW.trod_int Tryz.underlying3 s0
    obtain ⟨b2,e2,_⟩:=DataW.trod_bool Tryz.underlying4 s1
    obtain ⟨b3,e3,_⟩:=DataW.trod_bool Tryz.underlying4 s2
    obtain ⟨b4,e4,_⟩:=DataW.trod_bool Tryz.underlying4 f2
    obtain ⟨S,c,l,e5,hlc,_,hS⟩:=open_stops f3
    simp only [List.cons.injEq,and_true] at e0 e1 e2 e3 e4
    subst e0 e1 e2 e3 e4 e5
    refine ⟨(⟨b0,b1,b2,b3,b4,l⟩,(S,c)),fun j u hu=>?_,hS,hlc⟩
    have hj:j<6:=(List.getElem?_eq_some_iff.1 hu).1
    have:=hat j hj
    rw [add_of_add] at this
    rw [this]
    exact hu)
  refine ⟨l.map (·.1),?_⟩
  have hll:len=((l.map (·.1)).map eEv).length:=by simp [hlen]
  have key:∀ (i:Nat) r (j:Nat) av,((l.map (·.1)).map eEv)[i]?=some r→r[j]?=some av→∃ x u,l[i]?=some x∧(evCells x.1 x.2)[j]?=some u∧w.cell? (a.add (i*6+j))=some u∧u.oneCell'=true∧RP (fun q=>w.cell? q) av u:=fun i r j av hr hav=>by
   rw [List.map_map,List.getElem?_map] at hr
   cases hx:l[i]? with
   | none=>simp [hx] at hr
   | some x =>
    rw [hx] at hr
    obtain rfl:eEv x.1=r:=by simpa using hr
    obtain ⟨hkl,hkx⟩:=List.getElem?_eq_some_iff.1 hx
    have q:=hq i hkl
    rw [hkx] at q
    have fin:∀ u,(evCells x.1 x.2)[j]?=some u→u.oneCell'=true→RP (fun q=>w.cell? q) av u→∃ x' u,some x=some x'∧(evCells x'.1 x'.2)[j]?=some u∧w.cell? (a.add (i*6+j))=some u∧u.oneCell'=true∧RP (fun q=>w.cell? q) av u:=fun u h1 h2 h3=>⟨x,u,rfl,h1,q.1 j u h1,h2,h3⟩
    match j with
    | 0=>cases hav;exact fin _ rfl rfl (.sc _)
    | 1=>cases hav;exact fin _ rfl rfl (.sc _)
    | 2=>cases hav;exact fin _ rfl rfl (.sc _)
    | 3=>cases hav;exact fin _ rfl rfl (.sc _)
    | 4=>cases hav;exact fin _ rfl rfl (.sc _)
    | 5=>cases hav;exact fin _ rfl rfl (rp_mem q.2.1 q.2.2 (fun _=>rfl) eStp_of)
    | j+6=>simp [eEv] at hav
  rw [hll]
  refine .ls 6 _ (some a) cap a (fun i j=>((l[i]?).bind fun x=>(evCells x.1 x.2)[j]?).getD undef) (by rw [← hll];exact hl) (fun r hr=>?_) (fun _=>rfl) (fun i r j av hr hav=>?_) (fun i r j av hr hav=>?_)
  ·obtain ⟨x,_,rfl⟩:=List.mem_map.1 hr;rfl
  ·obtain ⟨x,u,h1,h2,h3,h4,_⟩:=key i r j av hr hav
   simp only [h1,Option.bind_some,h2,Option.getD_some]
   exact ⟨h3,h4⟩
  ·obtain ⟨x,u,h1,h2,_,_,h5⟩:=key i r j av hr hav
   simp only [h1,Option.bind_some,h2,Option.getD_some]
   exact h5
end
end Go.Proofs.YtkgnmddakiagbaaGreatDoor
namespace Go.Proofs.YtkgnmddakiagbaaGreatDoor
open Go.RowKit Go.WideShapes Go.ChangeShapes Go.Joins Go.Deep
set_option maxRecDepth 100000
section
variable {H:Type} {enc:TypeId×Value→H} {w:World} {base:Nat} {spare:Nat→Bool} {held:Bool}
theorem open_rows_rp {α:Type} {T e:TypeId} {m n:Nat} {en:α→List AV} {v:Value} {x:DataW H×List MemPlace} (hu:Tryz.prog.underlying T=some (.slice e)) (hc:Tryz.prog.cellsOf e=m) (hlen:∀ a,(en a).length=m)
  (hel:∀ (k:Nat) (cs:List Value) (y:DataW H×List MemPlace),DataW.trod enc Tryz.prog w base spare held k e cs=some y→cs.length=m→∃ a:α,∀ (j:Nat) av u,(en a)[j]?=some av→cs[j]?=some u→u.oneCell'=true∧RP (fun q=>w.cell? q) av u)
  (h:DataW.trod enc Tryz.prog w base spare held n T [v]=some x):∃ l:List α,RP (fun q=>w.cell? q) (.ls m (l.map en)) v:=by
 rcases open_slice (P:=Tryz.prog) hu h with⟨h0,_⟩|⟨a,len,cap,mm,n',D,Pl,hcs,hb,hl,hm,hmm,_,hi⟩
 ·obtain rfl:v=.slice none 0 0:=by simpa using h0
  exact ⟨[],.ls m [] none 0 ⟨0,0,none⟩ (fun _ _=>undef) (by simp) (by simp) (fun h=>absurd h (by simp)) (fun i r j av h=>by simp at h) (fun i r j av h=>by simp at h)⟩
 ·obtain rfl:v=.slice (some a) len cap:=by simpa using hcs
  have hlm:len≤mm:=by rw [hmm];split<;>omega
  obtain ⟨l,hll,hq⟩:=list_of (Q:=fun i (x:α×List Value)=>(∀ j,j<m→∃ u,x.2[j]?=some u∧w.cell? (a.add (i*m+j))=some u)∧∀ (j:Nat) av u,(en x.1)[j]?=some av→x.2[j]?=some u→u.oneCell'=true∧RP (fun q=>w.cell? q) av u) len (fun i hil=>by
   obtain ⟨cs',hc',ht'⟩:=hi i (by omega)
   rw [hc] at hc'
   obtain ⟨_,hcl,hat⟩:=World.cells?_some hc'
   obtain ⟨b,hb2⟩:=hel _ _ _ ht' hcl
   refine ⟨(b,cs'),fun j hj=>?_,hb2⟩
   have:=hat j hj
   rw [add_of_add] at this
   exact ⟨cs'[j]'(by omega),List.getElem?_eq_getElem _,by rw [this];exact List.getElem?_eq_getElem _⟩)
  refine ⟨l.map (·.1),?_⟩
  have hlm2:len=((l.map (·.1)).map en).length:=by simp [hll]
  have key:∀ (i:Nat) r (j:Nat) av,((l.map (·.1)).map en)[i]?=some r→r[j]?=some av→∃ x u,l[i]?=some x∧x.2[j]?=some u∧w.cell? (a.add (i*m+j))=some u∧u.oneCell'=true∧RP (fun q=>w.cell? q) av u:=fun i r j av hr hav=>by
   rw [List.map_map,List.getElem?_map] at hr
   cases hx:l[i]? with
   | none=>simp [hx] at hr
   | some x =>
    rw [hx] at hr
    obtain rfl:en x.1=r:=by simpa using hr
    obtain ⟨hkl,hkx⟩:=List.getElem?_eq_some_iff.1 hx
    have q:=hq i hkl
    rw [hkx] at q
    have hj:j<m:=by have:=(List.getElem?_eq_some_iff.1 hav).1;rw [hlen] at this;exact this
    obtain ⟨u,hu1,hu2⟩:=q.1 j hj
    obtain ⟨q1,q2⟩:=q.2 j av u hav hu1
    exact ⟨x,u,rfl,hu1,hu2,q1,q2⟩
  rw [hlm2]
  refine .ls m _ (some a) cap a (fun i j=>((l[i]?).bind fun x=>x.2[j]?).getD undef) (by rw [← hlm2];exact hl) (fun r hr=>?_) (fun _=>rfl) (fun i r j av hr hav=>?_) (fun i r j av hr hav=>?_)
  ·obtain ⟨x,_,rfl⟩:=List.mem_map.1 hr;exact hlen x
  ·obtain ⟨x,u,h1,h2,h3,h4,_⟩:=key i r j av hr hav
   simp only [h1,Option.bind_some,h2,Option.getD_some]
   exact ⟨h3,h4⟩
  ·obtain ⟨x,u,h1,h2,_,_,h5⟩:=key i r j av hr hav
   simp only [h1,Option.bind_some,h2,Option.getD_some]
   exact h5
theorem open_intcell {k:Nat} {u:Value} {y:Option (DataW H×List MemPlace)} (h:DataW.trod enc Tryz.prog w base spare held k 3 [u]=y) (hy:y.isSome=true):∃ z:Int,u=.int .i64 z:=by
 obtain ⟨y,rfl⟩:=Option.isSome_iff_exists.1 hy
 obtain ⟨z,e,_⟩:=DataW.trod_int Tryz.underlying3 h
 exact ⟨z,by simpa using e⟩
theorem open_ints_rp {n:Nat} {v:Value} {x:DataW H×List MemPlace} (h:DataW.trod enc Tryz.prog w base spare held n 24 [v]=some x):∃ l:List Int,RP (fun q=>w.cell? q) (.ls 1 (l.map eInt)) v :=
 open_rows_rp (en:=eInt) Tryz.underlying24 cellsInt (fun _=>rfl) (fun k cs y hy hl=>by
  match cs,hl with
  | [u0],_ =>
   obtain ⟨z,rfl⟩:=open_intcell hy rfl
   refine ⟨z,fun j av u a b=>?_⟩
   match j with
   | 0=>cases a;cases b;exact ⟨rfl,.sc _⟩
   | j+1=>simp [eInt] at a) h
end
end Go.Proofs.YtkgnmddakiagbaaGreatDoor
namespace Go.Proofs.YtkgnmddakiagbaaGreatDoor
open Go.RowKit Go.WideShapes Go.ChangeShapes Go.Joins Go.Deep
set_option maxRecDepth 100000
section
variable {H:Type} {enc:TypeId×Value→H} {w:World} {base:Nat} {spare:Nat→Bool} {held:Bool}
theorem cellsStaffed:Tryz.prog.cellsOf 122=4:=by kernel_rfl
theorem cellsEntry:Tryz.prog.cellsOf 141=5:=by kernel_rfl
theorem cellsString':Tryz.prog.cellsOf 9=1:=by kernel_rfl
theorem cellsSystem':Tryz.prog.cellsOf 22=1:=by kernel_rfl
theorem cellsBook:Tryz.prog.cellsOf 49=1:=by kernel_rfl
theorem cellsEntries:Tryz.prog.cellsOf 47=1:=by kernel_rfl
theorem open_staffed_rp {n:Nat} {v:Value} {x:DataW H×List MemPlace} (h:DataW.trod enc Tryz.prog w base spare held n 41 [v]=some x):∃ l:List Sf,RP (fun q=>w.cell? q) (.ls 4 (l.map eSf)) v :=
 open_rows_rp (en:=eSf) Tryz.underlying41 cellsStaffed (fun _=>rfl) (fun k cs y hy hl=>by
  match cs,hl with
  | [u0,u1,u2,u3],_ =>
   obtain ⟨ys,n2,_,_,_,hys,hf⟩:=DataW.trod_struct Tryz.underlying122 hy
   have f0:DataW.trod enc Tryz.prog w base spare held n2 3 [u0]=ys[0]?:=by simpa [cellsInt] using hf 0 _ rfl
   have f1:DataW.trod enc Tryz.prog w base spare held n2 3 [u1]=ys[1]?:=by simpa [cellsInt] using hf 1 _ rfl
   have f2:DataW.trod enc Tryz.prog w base spare held n2 3 [u2]=ys[2]?:=by simpa [cellsInt] using hf 2 _ rfl
   have f3:DataW.trod enc Tryz.prog w base spare held n2 3 [u3]=ys[3]?:=by simpa [cellsInt] using hf 3 _ rfl
   have gy:∀ j,j<4→(ys[j]?).isSome=true:=fun j hj=>by rw [List.getElem?_eq_getElem (by rw [hys];exact hj)];rfl
   obtain ⟨z0,rfl⟩:=open_intcell f0 (gy 0 (by omega))
   obtain ⟨z1,rfl⟩:=open_intcell f1 (gy 1 (by omega))
   obtain ⟨z2,rfl⟩:=open_intcell f2 (gy 2 (by omega))
   obtain ⟨z3,rfl⟩:=open_intcell f3 (gy 3 (by omega))
   refine ⟨(z0,z1,z2,z3),fun j av u a b=>?_⟩
   match j with
   | 0=>cases a;cases b;exact ⟨rfl,.sc _⟩
   | 1=>cases a;cases b;exact ⟨rfl,.sc _⟩
   | 2=>cases a;cases b;exact ⟨rfl,.sc _⟩
   | 3=>cases a;cases b;exact ⟨rfl,.sc _⟩
   | j+4=>simp [eSf] at a) h
theorem open_staffed_arg {r:Reach} {b0:Nat} {v:Value} {d:DataW H} {p:List MemPlace} (hv:Value.okWide Tryz.prog w r b0 41 v) (h:DataW.Trod enc Tryz.prog w base spare held 41 v d p) :
  ∃ l:List Sf,RP (fun q=>w.cell? q) (.ls 4 (l.map eSf)) v:=by
 obtain ⟨a0,len,cap,rfl⟩:=okWide_slice Tryz.underlying41 hv
 obtain ⟨fuel,hf⟩:=h
 exact open_staffed_rp (by simpa [Value.cells] using hf)
theorem open_ints_arg {r:Reach} {b0:Nat} {v:Value} {d:DataW H} {p:List MemPlace} (hv:Value.okWide Tryz.prog w r b0 24 v) (h:DataW.Trod enc Tryz.prog w base spare held 24 v d p) :
  ∃ l:List Int,RP (fun q=>w.cell? q) (.ls 1 (l.map eInt)) v:=by
 obtain ⟨a0,len,cap,rfl⟩:=okWide_slice Tryz.underlying24 hv
 obtain ⟨fuel,hf⟩:=h
 exact open_ints_rp (by simpa [Value.cells] using hf)
theorem open_ins_rp {n:Nat} {u1 u2:Value} {y:DataW H×List MemPlace} (h:DataW.trod enc Tryz.prog w base spare held n 26 [u1,u2]=some y) :
  ∃ (cs:List (Int×Int×Bool)) (st:List Int),RP (fun q=>w.cell? q) (.ls 3 (cs.map eCrs)) u1∧RP (fun q=>w.cell? q) (.ls 1 (st.map eInt)) u2∧u1.oneCell'=true∧u2.oneCell'=true:=by
 obtain ⟨zs,n3,_,_,_,hzs,hz⟩:=DataW.trod_struct Tryz.underlying26 h
 have g0:DataW.trod enc Tryz.prog w base spare held n3 23 [u1]=zs[0]?:=by simpa [cellsCourses] using hz 0 _ rfl
 have g1:DataW.trod enc Tryz.prog w base spare held n3 24 [u2]=zs[1]?:=by simpa [cellsInts] using hz 1 _ rfl
 obtain ⟨z0,hz0⟩:∃ y,zs[0]?=some y:=⟨_,List.getElem?_eq_getElem (by rw [hzs];decide)⟩
 obtain ⟨z1,hz1⟩:∃ y,zs[1]?=some y:=⟨_,List.getElem?_eq_getElem (by rw [hzs];decide)⟩
 rw [hz0] at g0;rw [hz1] at g1
 obtain ⟨A1,A2,k1,k2,cs,st,rfl,rfl,l1,l2,hI⟩:=open_ins h
 have hc1:=cap_of_trod Tryz.underlying23 g0
 have hc2:=cap_of_trod Tryz.underlying24 g1
 exact ⟨cs,st,rp_mem hI.1 hc1 (fun _=>rfl) eCrs_of,rp_mem hI.2 hc2 (fun _=>rfl) eInt_of,rfl,rfl⟩
theorem open_book_arg {r:Reach} {b0:Nat} {v:Value} {d:DataW H} {p:List MemPlace} (hv:Value.okWide Tryz.prog w r b0 49 v) (h:DataW.Trod enc Tryz.prog w base spare held 49 v d p) :
  ∃ b:List En,RP (fun q=>w.cell? q) (eBk b) v:=by
 obtain ⟨cs,rfl,hsz⟩:=okWide_struct Tryz.underlying49 hv
 obtain ⟨l⟩:=cs
 match l,hsz.trans cellsBook with
 | [c0],_ =>
  obtain ⟨fuel,hf⟩:=h
  obtain ⟨ys,n2,_,_,_,hys,hg⟩:=DataW.trod_struct Tryz.underlying49 (by simpa [Value.cells] using hf:DataW.trod enc Tryz.prog w base spare held fuel 49 [c0]=some (d,p))
  have f0:DataW.trod enc Tryz.prog w base spare held n2 47 [c0]=ys[0]?:=by simpa [cellsEntries] using hg 0 _ rfl
  obtain ⟨y0,hy0⟩:∃ y,ys[0]?=some y:=⟨_,List.getElem?_eq_getElem (by rw [hys];decide)⟩
  rw [hy0] at f0
  obtain ⟨b,hb⟩:=open_rows_rp (en:=eEn) Tryz.underlying47 cellsEntry (fun _=>rfl) (fun k cs y hy hl=>by
   match cs,hl with
   | [u0,u1,u2,u3,u4],_ =>
    obtain ⟨ys,n2,_,_,_,hys,hf⟩:=DataW.trod_struct Tryz.underlying141 hy
    have f0:DataW.trod enc Tryz.prog w base spare held n2 9 [u0]=ys[0]?:=by simpa [cellsString'] using hf 0 _ rfl
    have f1:DataW.trod enc Tryz.prog w base spare held n2 22 [u1]=ys[1]?:=by simpa [cellsString',cellsSystem'] using hf 1 _ rfl
    have f2:DataW.trod enc Tryz.prog w base spare held n2 29 [u2,u3,u4]=ys[2]?:=by simpa [cellsString',cellsSystem',cellsPiece] using hf 2 _ rfl
    have gy:∀ j,j<3→∃ y,ys[j]?=some y:=fun j hj=>⟨_,List.getElem?_eq_getElem (by rw [hys];exact hj)⟩
    obtain ⟨y0,hy0⟩:=gy 0 (by omega)
    obtain ⟨y1,hy1⟩:=gy 1 (by omega)
    obtain ⟨y2,hy2⟩:=gy 2 (by omega)
    rw [hy0] at f0;rw [hy1] at f1;rw [hy2] at f2
    obtain ⟨s0,e0,_⟩:=DataW.trod_string Tryz.underlying9 f0
    obtain ⟨s1,e1,_⟩:=DataW.trod_int Tryz.underlying22 f1
    simp only [List.cons.injEq,and_true] at e0 e1
    subst e0 e1
    obtain ⟨t0,rfl⟩:∃ l,s0=bs l:=by obtain ⟨xs⟩:=s0;exact ⟨_,mk_bs xs⟩
    obtain ⟨zs,n3,_,_,_,hzs,hz⟩:=DataW.trod_struct Tryz.underlying29 f2
    have q0:DataW.trod enc Tryz.prog w base spare held n3 26 [u2,u3]=zs[0]?:=by simpa [cellsInstrument] using hz 0 _ rfl
    have q1:DataW.trod enc Tryz.prog w base spare held n3 27 [u4]=zs[1]?:=by simpa [cellsEvents] using hz 1 _ rfl
    obtain ⟨z0,hz0⟩:∃ y,zs[0]?=some y:=⟨_,List.getElem?_eq_getElem (by rw [hzs];decide)⟩
    obtain ⟨z1,hz1⟩:∃ y,zs[1]?=some y:=⟨_,List.getElem?_eq_getElem (by rw [hzs];decide)⟩
    rw [hz0] at q0;rw [hz1] at q1
    obtain ⟨cs,st,r1,r2,o1,o2⟩:=open_ins_rp q0
    obtain ⟨evs,r3⟩:=open_events_rp q1
    have o3:u4.oneCell'=true:=by
     obtain ⟨A,cap,ad,u',rfl,_⟩:=r3.ls_of
     rfl
    refine ⟨⟨t0,s1,⟨cs,st,evs⟩⟩,fun j av u a b=>?_⟩
    match j with
    | 0=>cases a;cases b;exact ⟨rfl,.sc _⟩
    | 1=>cases a;cases b;exact ⟨rfl,.sc _⟩
    | 2=>cases a;cases b;exact ⟨o1,r1⟩
    | 3=>cases a;cases b;exact ⟨o2,r2⟩
    | 4=>cases a;cases b;exact ⟨o3,r3⟩
    | j+5=>simp [eEn] at a) f0
  refine ⟨b,.ag _ _ rfl fun i av u a b=>?_⟩
  match i with
  | 0=>cases a;cases b;exact hb
  | i+1=>simp at a
end
end Go.Proofs.YtkgnmddakiagbaaGreatDoor
