/- How long a piece is. -/
import Derived.Test.YtgelfflighgajaaGreatDoorAlQOq
set_option maxHeartbeats 8000000
set_option maxRecDepth 100000
set_option linter.unusedVariables false
set_option linter.unusedSimpArgs false
namespace Go.Proofs.YtgelfflighgajaaGreatDoor
section
open Go.RowKit Go.WideShapes Go.ChangeShapes Go.Joins Go.Deep
theorem rp_mem {α:Type} {w:World} {n:Nat} {l:List α} {e:α→List AV} {f:α→List Value} {A:Option Addr} {c B:Nat} (hr:Rd w B n A (l.map f)) (hc:l.length≤c)
  (hf:∀ x,(e x).length=n) (hef:∀ x (j:Nat) av,(e x)[j]?=some av→∃ u,av=.sc u∧(f x)[j]?=some u∧u.oneCell'=true):RP (fun q=>w.cell? q) (.ls n (l.map e)) (.slice A l.length c):=by
 have hcell:∀ ad,A=some ad→∀ (k:Nat) x,l[k]?=some x→∀ (j:Nat) u,(f x)[j]?=some u→w.cell? (ad.add (k*n+j))=some u:=fun ad had k x hk j u hu=>by
  have hl:0<(l.map f).length:=by have:=(List.getElem?_eq_some_iff.1 hk).1;simp;omega
  obtain ⟨ad',e',_,h2⟩:=hr hl
  rw [had] at e'
  cases e'
  exact h2 k (f x) (by rw [List.getElem?_map,hk];rfl) j u hu
 have key:∀ (i:Nat) r (j:Nat) av,(l.map e)[i]?=some r→r[j]?=some av→∃ x u,l[i]?=some x∧av=.sc u∧(f x)[j]?=some u∧u.oneCell'=true:=fun i r j av hr' hav=>by
  rw [List.getElem?_map] at hr'
  cases hx:l[i]? with
  | none=>simp [hx] at hr'
  | some x =>
   rw [hx] at hr'
   obtain rfl:e x=r:=by simpa using hr'
   obtain ⟨u,a,b,c⟩:=hef x j av hav
   exact ⟨x,u,rfl,a,b,c⟩
 have hlen:l.length=(l.map e).length:=by simp
 rw [hlen]
 refine .ls n (l.map e) A c (A.getD ⟨0,0,none⟩) (fun i j=>((l[i]?).bind fun x=>(f x)[j]?).getD undef) (by simpa using hc) (fun r hr'=>?_) (fun hp=>?_) (fun i r j av hr' hav=>?_) (fun i r j av hr' hav=>?_)
 ·obtain ⟨x,_,rfl⟩:=List.mem_map.1 hr';exact hf x
 ·obtain ⟨ad,e',_⟩:=hr (by simpa using hp)
  rw [e'];rfl
 ·obtain ⟨x,u,h1,h2,h3,h4⟩:=key i r j av hr' hav
  obtain ⟨ad,e',_⟩:=hr (by have:=(List.getElem?_eq_some_iff.1 h1).1;simp;omega)
  simp only [h1,Option.bind_some,h3,Option.getD_some]
  rw [e']
  exact ⟨hcell ad e' i x h1 j u h3,h4⟩
 ·obtain ⟨x,u,h1,h2,h3,h4⟩:=key i r j av hr' hav
  simp only [h1,Option.bind_some,h3,Option.getD_some,h2]
  exact .sc u
theorem eStp_of(x:Stp)(j:Nat)(av:AV)(h:(eStp x)[j]?=some av):∃ u,av=.sc u∧(stpCells x)[j]?=some u∧u.oneCell'=true:=by
 match j with
 | 0=>cases h;exact⟨_,rfl,rfl,rfl⟩
 | 1=>cases h;exact⟨_,rfl,rfl,rfl⟩
 | 2=>cases h;exact⟨_,rfl,rfl,rfl⟩
 | 3=>cases h;exact⟨_,rfl,rfl,rfl⟩
 | 4=>cases h;exact⟨_,rfl,rfl,rfl⟩
 | j+5=>simp [eStp]at h
section
variable {H:Type} {enc:TypeId×Value→H} {w:World} {base:Nat} {spare:Nat→Bool} {held:Bool}
theorem cap_of_trod {n k c:Nat} {T e:TypeId} {A:Option Addr} {x:DataW H×List MemPlace} (hu:Tryz.prog.underlying T=some (.slice e))(h:DataW.trod enc Tryz.prog w base spare held n T [.slice A k c]=some x):k≤c:=by
 rcases open_slice (P:=Tryz.prog) hu h with⟨h0,_⟩|⟨a,len,cap,m,n',D,Pl,hcs,hb,hl,hm,hmm,_,hi⟩
 ·simp at h0;omega
 ·simp at hcs;omega
theorem open_events_rp {n:Nat} {v:Value} {x:DataW H×List MemPlace} (h:DataW.trod enc Tryz.prog w base spare held n 26 [v]=some x) :
  ∃ evs:List Ev,RP (fun q=>w.cell? q) (.ls 6 (evs.map eEv)) v:=by
 rcases open_slice (P:=Tryz.prog) Tryz.underlying26 h with⟨h0,_⟩|⟨a,len,cap,m,n',D,Pl,hcs,hb,hl,hm,hmm,_,hi⟩
 ·obtain rfl:v=.slice none 0 0:=by simpa using h0
  exact ⟨[],.ls 6 [] none 0 ⟨0,0,none⟩ (fun _ _=>undef) (by simp) (by simp) (fun h=>absurd h (by simp)) (fun i r j av h=>by simp at h) (fun i r j av h=>by simp at h)⟩
 ·obtain rfl:v=.slice (some a) len cap:=by simpa using hcs
  have hlm:len≤m:=by rw [hmm];split<;>omega
  obtain ⟨l,hlen,hq⟩:=list_of (Q:=fun i (x:Ev×(Option Addr×Nat))=>(∀ j u,(evCells x.1 x.2)[j]?=some u→w.cell? (a.add (i*6+j))=some u)∧StpsAt w w.heap.size x.2.1 x.1.stops∧x.1.stops.length≤x.2.2) len (fun i hil=>by
   obtain ⟨cs',hc,ht'⟩:=hi i zqo
   rw [cellsEvent] at hc
   obtain ⟨ys,n2,_,_,hlen,hys,hf⟩:=DataW.trod_struct Tryz.underlying36 ht'
   obtain ⟨_,hcl,hat⟩:=World.cells?_some hc
   match cs',hcl with
   | [u0,u1,u2,u3,u4,u5],_ =>
    have f0:DataW.trod enc Tryz.prog w base spare held n2 4 [u0]=ys[0]?:=by simpa [cellsBool] using hf 0 _ rfl
    have f1:DataW.trod enc Tryz.prog w base spare held n2 33 [u1,u2,u3]=ys[1]?:=by simpa [cellsSign'] using hf 1 _ rfl
    have f2:DataW.trod enc Tryz.prog w base spare held n2 4 [u4]=ys[2]?:=by simpa [cellsBool] using hf 2 _ rfl
    have f3:DataW.trod enc Tryz.prog w base spare held n2 34 [u5]=ys[3]?:=by simpa [cellsStops] using hf 3 _ rfl
    have gy:∀ j,j<4→∃ y,ys[j]?=some y:=fun j hj=>⟨_,List.getElem?_eq_getElem (by rw [hys];exact hj)⟩
    obtain ⟨y0,hy0⟩:=gy 0 zqo
    obtain ⟨y1,hy1⟩:=gy 1 zqo
    obtain ⟨y2,hy2⟩:=gy 2 zqo
    obtain ⟨y3,hy3⟩:=gy 3 zqo
    rw [hy0] at f0;rw [hy1] at f1;rw [hy2] at f2;rw [hy3] at f3
    obtain ⟨zs,n3,_,_,_,hzs,hg⟩:=DataW.trod_struct Tryz.underlying33 f1
    have s0:DataW.trod enc Tryz.prog w base spare held n3 3 [u1]=zs[0]?:=by simpa [cellsInt] using hg 0 _ rfl
    have s1:DataW.trod enc Tryz.prog w base spare held n3 4 [u2]=zs[1]?:=by simpa [cellsBool] using hg 1 _ rfl
    have s2:DataW.trod enc Tryz.prog w base spare held n3 4 [u3]=zs[2]?:=by simpa [cellsBool] using hg 2 _ rfl
    have gz:∀ j,j<3→∃ y,zs[j]?=some y:=fun j hj=>⟨_,List.getElem?_eq_getElem (by rw [hzs];exact hj)⟩
    obtain ⟨z0,hz0⟩:=gz 0 zqo
    obtain ⟨z1,hz1⟩:=gz 1 zqo
    obtain ⟨z2,hz2⟩:=gz 2 zqo
    rw [hz0] at s0;rw [hz1] at s1;rw [hz2] at s2
    obtain ⟨b0,e0,_⟩:=DataW.trod_bool Tryz.underlying4 f0
    obtain ⟨b1,e1,_,_⟩:=DataW.trod_int Tryz.underlying3 s0
    obtain ⟨b2,e2,_⟩:=DataW.trod_bool Tryz.underlying4 s1
    obtain ⟨b3,e3,_⟩:=DataW.trod_bool Tryz.underlying4 s2
    obtain ⟨b4,e4,_⟩:=DataW.trod_bool Tryz.underlying4 f2
    obtain ⟨S,c,l,e5,hlc,_,hS⟩:=open_stops f3
    simp only [List.cons.injEq,and_true] at e0 e1 e2 e3 e4
    subst e0 e1 e2 e3 e4 e5
    refine ⟨(⟨b0,b1,b2,b3,b4,l⟩,(S,c)),fun j u hu=>?_,hS,hlc⟩
    have hj:j<6:=(List.getElem?_eq_some_iff.1 hu).1
    have:=hat j hj
    rw [add_of_add] at this
    rw [this]
    exact hu)
  refine ⟨l.map (·.1),?_⟩
  have hll:len=((l.map (·.1)).map eEv).length:=by simp [hlen]
  have key:∀ (i:Nat) r (j:Nat) av,((l.map (·.1)).map eEv)[i]?=some r→r[j]?=some av→∃ x u,l[i]?=some x∧(evCells x.1 x.2)[j]?=some u∧w.cell? (a.add (i*6+j))=some u∧u.oneCell'=true∧RP (fun q=>w.cell? q) av u:=fun i r j av hr hav=>by
   rw [List.map_map,List.getElem?_map] at hr
   cases hx:l[i]? with
   | none=>simp [hx] at hr
   | some x =>
    rw [hx] at hr
    obtain rfl:eEv x.1=r:=by simpa using hr
    obtain ⟨hkl,hkx⟩:=List.getElem?_eq_some_iff.1 hx
    have q:=hq i hkl
    rw [hkx] at q
    have fin:∀ u,(evCells x.1 x.2)[j]?=some u→u.oneCell'=true→RP (fun q=>w.cell? q) av u→∃ x' u,some x=some x'∧(evCells x'.1 x'.2)[j]?=some u∧w.cell? (a.add (i*6+j))=some u∧u.oneCell'=true∧RP (fun q=>w.cell? q) av u:=fun u h1 h2 h3=>⟨x,u,rfl,h1,q.1 j u h1,h2,h3⟩
    match j with
    | 0=>cases hav;exact fin _ rfl rfl (.sc _)
    | 1=>cases hav;exact fin _ rfl rfl (.sc _)
    | 2=>cases hav;exact fin _ rfl rfl (.sc _)
    | 3=>cases hav;exact fin _ rfl rfl (.sc _)
    | 4=>cases hav;exact fin _ rfl rfl (.sc _)
    | 5=>cases hav;exact fin _ rfl rfl (rp_mem q.2.1 q.2.2 (fun _=>rfl) eStp_of)
    | j+6=>simp [eEv] at hav
  rw [hll]
  refine .ls 6 _ (some a) cap a (fun i j=>((l[i]?).bind fun x=>(evCells x.1 x.2)[j]?).getD undef) (by rw [← hll];exact hl) (fun r hr=>?_) (fun _=>rfl) (fun i r j av hr hav=>?_) (fun i r j av hr hav=>?_)
  ·obtain ⟨x,_,rfl⟩:=List.mem_map.1 hr;rfl
  ·obtain ⟨x,u,h1,h2,h3,h4,_⟩:=key i r j av hr hav
   simp only [h1,Option.bind_some,h2,Option.getD_some]
   exact ⟨h3,h4⟩
  ·obtain ⟨x,u,h1,h2,_,_,h5⟩:=key i r j av hr hav
   simp only [h1,Option.bind_some,h2,Option.getD_some]
   exact h5
theorem open_piece_rp {r:Reach} {b0:Nat} {v:Value} {d:DataW H} {p:List MemPlace} (hv:Value.okWide Tryz.prog w r b0 28 v) (h:DataW.Trod enc Tryz.prog w base spare held 28 v d p) :
  ∃ pc:Pce,RP (fun q=>w.cell? q) (ePce pc) v:=by
 obtain ⟨cs,rfl,hsz⟩:=okWide_struct Tryz.underlying28 hv
 obtain ⟨l⟩:=cs
 match l,hsz.trans cellsPiece with
 | [c0,c1,c2],_ =>
  obtain ⟨fuel,hf⟩:=h
  obtain ⟨ys,n2,_,_,_,hys,hg⟩:=DataW.trod_struct Tryz.underlying28 (by simpa [Value.cells] using hf:DataW.trod enc Tryz.prog w base spare held fuel 28 [c0,c1,c2]=some (d,p))
  have f0:DataW.trod enc Tryz.prog w base spare held n2 25 [c0,c1]=ys[0]?:=by simpa [cellsInstrument] using hg 0 _ rfl
  have f1:DataW.trod enc Tryz.prog w base spare held n2 26 [c2]=ys[1]?:=by simpa [cellsEvents] using hg 1 _ rfl
  obtain ⟨y0,hy0⟩:∃ y,ys[0]?=some y:=⟨_,List.getElem?_eq_getElem (by rw [hys];decide)⟩
  obtain ⟨y1,hy1⟩:∃ y,ys[1]?=some y:=⟨_,List.getElem?_eq_getElem (by rw [hys];decide)⟩
  rw [hy0] at f0;rw [hy1] at f1
  obtain ⟨zs,n3,_,_,_,hzs,hz⟩:=DataW.trod_struct Tryz.underlying25 f0
  have g0:DataW.trod enc Tryz.prog w base spare held n3 22 [c0]=zs[0]?:=by simpa [cellsCourses] using hz 0 _ rfl
  have g1:DataW.trod enc Tryz.prog w base spare held n3 23 [c1]=zs[1]?:=by simpa [cellsInts] using hz 1 _ rfl
  obtain ⟨z0,hz0⟩:∃ y,zs[0]?=some y:=⟨_,List.getElem?_eq_getElem (by rw [hzs];decide)⟩
  obtain ⟨z1,hz1⟩:∃ y,zs[1]?=some y:=⟨_,List.getElem?_eq_getElem (by rw [hzs];decide)⟩
  rw [hz0] at g0;rw [hz1] at g1
  obtain ⟨A1,A2,k1,k2,cs,st,rfl,rfl,l1,l2,hI⟩:=open_ins f0
  obtain ⟨evs,hE⟩:=open_events_rp f1
  have hc1:=cap_of_trod Tryz.underlying22 g0
  have hc2:=cap_of_trod Tryz.underlying23 g1
  refine ⟨⟨cs,st,evs⟩,.ag _ _ rfl fun i av u a b=>?_⟩
  match i with
  | 0=>cases a;cases b;exact rp_mem hI.1 hc1 (fun _=>rfl) eCrs_of
  | 1=>cases a;cases b;exact rp_mem hI.2 hc2 (fun _=>rfl) eInt_of
  | 2=>cases a;cases b;exact hE
  | i+3=>simp at a
end
end
section
open Go.RowKit Go.WideShapes Go.ChangeShapes Go.Joins Go.Deep
section
variable {H:Type} {enc:TypeId×Value→H} {w:World} {base:Nat} {spare:Nat→Bool} {held:Bool}
theorem open_rows_rp {α:Type} {T e:TypeId} {m n:Nat} {en:α→List AV} {v:Value} {x:DataW H×List MemPlace} (hu:Tryz.prog.underlying T=some (.slice e)) (hc:Tryz.prog.cellsOf e=m) (hlen:∀ a,(en a).length=m)
  (hel:∀ (k:Nat) (cs:List Value) (y:DataW H×List MemPlace),DataW.trod enc Tryz.prog w base spare held k e cs=some y→cs.length=m→∃ a:α,∀ (j:Nat) av u,(en a)[j]?=some av→cs[j]?=some u→u.oneCell'=true∧RP (fun q=>w.cell? q) av u)
  (h:DataW.trod enc Tryz.prog w base spare held n T [v]=some x):∃ l:List α,RP (fun q=>w.cell? q) (.ls m (l.map en)) v:=by
 rcases open_slice (P:=Tryz.prog) hu h with⟨h0,_⟩|⟨a,len,cap,mm,n',D,Pl,hcs,hb,hl,hm,hmm,_,hi⟩
 ·obtain rfl:v=.slice none 0 0:=by simpa using h0
  exact ⟨[],.ls m [] none 0 ⟨0,0,none⟩ (fun _ _=>undef) (by simp) (by simp) (fun h=>absurd h (by simp)) (fun i r j av h=>by simp at h) (fun i r j av h=>by simp at h)⟩
 ·obtain rfl:v=.slice (some a) len cap:=by simpa using hcs
  have hlm:len≤mm:=by rw [hmm];split<;>omega
  obtain ⟨l,hll,hq⟩:=list_of (Q:=fun i (x:α×List Value)=>(∀ j,j<m→∃ u,x.2[j]?=some u∧w.cell? (a.add (i*m+j))=some u)∧∀ (j:Nat) av u,(en x.1)[j]?=some av→x.2[j]?=some u→u.oneCell'=true∧RP (fun q=>w.cell? q) av u) len (fun i hil=>by
   obtain ⟨cs',hc',ht'⟩:=hi i zqo
   rw [hc] at hc'
   obtain ⟨_,hcl,hat⟩:=World.cells?_some hc'
   obtain ⟨b,hb2⟩:=hel _ _ _ ht' hcl
   refine ⟨(b,cs'),fun j hj=>?_,hb2⟩
   have:=hat j hj
   rw [add_of_add] at this
   exact ⟨cs'[j]'(by omega),List.getElem?_eq_getElem _,by rw [this];exact List.getElem?_eq_getElem _⟩)
  refine ⟨l.map (·.1),?_⟩
  have hlm2:len=((l.map (·.1)).map en).length:=by simp [hll]
  have key:∀ (i:Nat) r (j:Nat) av,((l.map (·.1)).map en)[i]?=some r→r[j]?=some av→∃ x u,l[i]?=some x∧x.2[j]?=some u∧w.cell? (a.add (i*m+j))=some u∧u.oneCell'=true∧RP (fun q=>w.cell? q) av u:=fun i r j av hr hav=>by
   rw [List.map_map,List.getElem?_map] at hr
   cases hx:l[i]? with
   | none=>simp [hx] at hr
   | some x =>
    rw [hx] at hr
    obtain rfl:en x.1=r:=by simpa using hr
    obtain ⟨hkl,hkx⟩:=List.getElem?_eq_some_iff.1 hx
    have q:=hq i hkl
    rw [hkx] at q
    have hj:j<m:=by have:=(List.getElem?_eq_some_iff.1 hav).1;rw [hlen] at this;exact this
    obtain ⟨u,hu1,hu2⟩:=q.1 j hj
    obtain ⟨q1,q2⟩:=q.2 j av u hav hu1
    exact ⟨x,u,rfl,hu1,hu2,q1,q2⟩
  rw [hlm2]
  refine .ls m _ (some a) cap a (fun i j=>((l[i]?).bind fun x=>x.2[j]?).getD undef) (by rw [← hlm2];exact hl) (fun r hr=>?_) (fun _=>rfl) (fun i r j av hr hav=>?_) (fun i r j av hr hav=>?_)
  ·obtain ⟨x,_,rfl⟩:=List.mem_map.1 hr;exact hlen x
  ·obtain ⟨x,u,h1,h2,h3,h4,_⟩:=key i r j av hr hav
   simp only [h1,Option.bind_some,h2,Option.getD_some]
   exact ⟨h3,h4⟩
  ·obtain ⟨x,u,h1,h2,_,_,h5⟩:=key i r j av hr hav
   simp only [h1,Option.bind_some,h2,Option.getD_some]
   exact h5
end
end
section
open Go.RowKit Go.WideShapes Go.ChangeShapes Go.Joins Go.Deep
section
variable {H:Type} {enc:TypeId×Value→H} {w:World} {base:Nat} {spare:Nat→Bool} {held:Bool}
theorem open_ins_rp {n:Nat} {u1 u2:Value} {y:DataW H×List MemPlace} (h:DataW.trod enc Tryz.prog w base spare held n 25 [u1,u2]=some y) :
  ∃ (cs:List (Int×Int×Bool)) (st:List Int),RP (fun q=>w.cell? q) (.ls 3 (cs.map eCrs)) u1∧RP (fun q=>w.cell? q) (.ls 1 (st.map eInt)) u2∧u1.oneCell'=true∧u2.oneCell'=true:=by
 obtain ⟨zs,n3,_,_,_,hzs,hz⟩:=DataW.trod_struct Tryz.underlying25 h
 have g0:DataW.trod enc Tryz.prog w base spare held n3 22 [u1]=zs[0]?:=by simpa [cellsCourses] using hz 0 _ rfl
 have g1:DataW.trod enc Tryz.prog w base spare held n3 23 [u2]=zs[1]?:=by simpa [cellsInts] using hz 1 _ rfl
 obtain ⟨z0,hz0⟩:∃ y,zs[0]?=some y:=⟨_,List.getElem?_eq_getElem (by rw [hzs];decide)⟩
 obtain ⟨z1,hz1⟩:∃ y,zs[1]?=some y:=⟨_,List.getElem?_eq_getElem (by rw [hzs];decide)⟩
 rw [hz0] at g0;rw [hz1] at g1
 obtain ⟨A1,A2,k1,k2,cs,st,rfl,rfl,l1,l2,hI⟩:=open_ins h
 have hc1:=cap_of_trod Tryz.underlying22 g0
 have hc2:=cap_of_trod Tryz.underlying23 g1
 exact ⟨cs,st,rp_mem hI.1 hc1 (fun _=>rfl) eCrs_of,rp_mem hI.2 hc2 (fun _=>rfl) eInt_of,rfl,rfl⟩
end
end
section
open Go.RowKit
theorem pSysName_bad (s:Int) (hs:¬ (1≤s∧s≤4)):Ctr Tryz.prog 69 [.sc (.int .u8 s)] (.tu [.sc (.string (bs [])),.sc (.int .i64 30)]):=by
 have h:=of_FS s
 rw [decide_eq_false hs] at h
 refine zqe Tryz.func69 Tryz.ntmps69 fun w0 F0=>?_;dsimp only [St.init,number,Nat.reduceAdd]
 repeat refine W.go rfl ?_
 refine (?_:WL _ _ _ _ _ _)
 refine WL.vl rfl (zqc Tryz.func122 h) ?_
 repeat (first|refine W.gob rfl ?_|refine WL.nil ?_|refine WL.e1 rfl ?_|refine W.condT rfl ?_)
 refine (?_:W _ _ _ _ _)
 exact W.ret (fin2 rfl rfl rfl rfl rfl rfl rfl)
theorem pSysName_ok (s:Int) (hs:1≤s∧s≤4):Ctr Tryz.prog 69 [.sc (.int .u8 s)] (.tu [.sc (.string (bs (snmT s))),.sc (.int .i64 0)]):=by
 have h:=of_FS s
 rw [decide_eq_true hs] at h
 have hnm:=name_FS s hs
 refine zqe Tryz.func69 Tryz.ntmps69 fun w0 F0=>?_;dsimp only [St.init,number,Nat.reduceAdd]
 repeat refine W.go rfl ?_
 refine (?_:WL _ _ _ _ _ _)
 refine WL.vl rfl (zqc Tryz.func122 h) ?_
 repeat (first|refine W.gob rfl ?_|refine WL.nil ?_|refine WL.e1 rfl ?_|refine W.condF rfl ?_)
 refine (?_:WL _ _ _ _ _ _)
 refine WL.vl rfl (WV.sys hs nameF rfl rfl (fun vs w=>by kernel_rfl) (fun vs w=>by kernel_rfl) (fun vs w=>by kernel_rfl) (fun vs w=>by kernel_rfl) rfl rfl hnm) ?_
 repeat (first|refine WL.nil ?_|refine WL.e1 rfl ?_)
 refine (?_:W _ _ _ _ _)
 exact W.ret (fin2 rfl rfl rfl rfl rfl rfl rfl)
theorem ed_sys {s:Int} {p:Pce} {key:Int} (h:¬ (1≤s∧s≤4)):edX s p key=30∧edT s p key=[]:=by
 have:edX s p key=30:=if_neg h
 exact⟨this,by unfold edT;rw [this];rfl⟩
theorem ed_eng {s:Int} {p:Pce} {key:Int} (h:1≤s∧s≤4)(h2:engX p key≠0):edX s p key=engX p key∧edT s p key=[]:=by
 have:edX s p key=engX p key:=by unfold edX;rw [if_pos h,if_pos h2]
 exact⟨this,by unfold edT;rw [this,if_neg h2]⟩
theorem ed_no {s:Int} {p:Pce} {key:Int} (h:1≤s∧s≤4)(h2:engX p key=0)(h3:lksR s p≠[]):edX s p key=31∧edT s p key=[]:=by
 have:edX s p key=31:=by unfold edX;rw [if_pos h,if_neg (by simp [h2]),if_neg h3]
 exact⟨this,by unfold edT;rw [this];rfl⟩
theorem ed_ok {s:Int} {p:Pce} {key:Int} (h:1≤s∧s≤4) (h2:engX p key=0) (h3:lksR s p=[]):edX s p key=0∧edT s p key=edB s p (mea p.evs p.evs.length) (engL p key) p.evs.length:=by
 have:edX s p key=0:=by unfold edX;rw [if_pos h,if_neg (by simp [h2]),if_pos h3]
 exact ⟨this,by unfold edT;rw [this];rfl⟩
theorem pEdition_G1 (s:Int) (p:Pce) (hO:PcOk p) (key:Int) (hne:0 < p.evs.length):Ctg tabB Tryz.prog 50 [ePce p,.sc (.int .i64 key),.sc (.int .u8 s)] (.tu [.sc (.string (bs (edT s p key))),.sc (.int .i64 (edX s p key))]):=by
 have hn3:=hO.n3
 by_cases hs:1≤s∧s≤4
 rotate_left
 ·rw [(ed_sys hs).1,(ed_sys hs).2]
  refine Ctg.intro stabB Tryz.func50 rfl Tryz.ntmps50 (Nat.le_of_ble_eq_true rfl) (bd_all rfl) fun w0 F0 hB=>?_;dsimp only [St.init,number,Nat.reduceAdd]
  repeat refine W.go rfl ?_
  refine (?_:WL _ _ _ _ _ _)
  refine WL.vl rfl (WV.call rfl (callF Tryz.func69 rfl rfl) rfl rfl (pSysName_bad s hs)) ?_
  repeat (first|refine W.gob rfl ?_|refine WL.nil ?_|refine WL.nt rfl rfl rfl zqo ?_|refine WL.e1 rfl ?_|refine W.condT rfl ?_)
  refine (?_:W _ _ _ _ _)
  exact W.ret (fin2 rfl rfl rfl rfl rfl rfl rfl)
 have hE:=pEngrave_FS p hO key
 by_cases hx:engX p key=0
 rotate_left
 ·rw [(ed_eng hs hx).1,(ed_eng hs hx).2]
  obtain ⟨E,hEq⟩:∃ E,engX p key=E:=⟨_,rfl⟩
  rw [hEq] at hx hE ⊢
  refine Ctg.intro stabB Tryz.func50 rfl Tryz.ntmps50 (Nat.le_of_ble_eq_true rfl) (bd_all rfl) fun w0 F0 hB=>?_;dsimp only [St.init,number,Nat.reduceAdd]
  repeat refine W.go rfl ?_
  refine (?_:WL _ _ _ _ _ _)
  refine WL.vl rfl (WV.call rfl (callF Tryz.func69 rfl rfl) rfl rfl (pSysName_ok s hs)) ?_
  repeat (first|refine W.gob rfl ?_|refine WL.nil ?_|refine WL.nf rfl rfl rfl zqo ?_|refine WL.e1 rfl ?_|refine W.condF rfl ?_)
  refine (?_:WL _ _ _ _ _ _)
  refine WL.vl rfl (WV.callG hB rfl (callF Tryz.func110 rfl rfl) rfl rfl hE) ?_
  repeat (first|refine W.gob rfl ?_|refine WL.nil ?_|refine WL.nt rfl rfl rfl zqo ?_|refine WL.e1 rfl ?_|refine W.condT rfl ?_)
  refine (?_:W _ _ _ _ _)
  exact W.ret (fin2 rfl rfl rfl rfl rfl rfl rfl)
 obtain ⟨h0,hsf,hsl⟩:=engL_ok hO hx
 have hlE:=(lks_ok hs h0).2
 have hlR:=(lks_ok hs h0).1
 have hc:=pCan_FS s p hO
 rw [hlE] at hc
 rw [hx] at hE
 by_cases hl:lksR s p=[]
 rotate_left
 ·rw [(ed_no hs hx hl).1,(ed_no hs hx hl).2]
  have hb:((0:Int) == 0 && ((lksR s p).length:Int) == 0)=false:=by
   have:(lksR s p).length≠0:=fun h=>hl (List.eq_nil_of_length_eq_zero h)
   simp;omega
  rw [hb] at hc
  refine Ctg.intro stabB Tryz.func50 rfl Tryz.ntmps50 (Nat.le_of_ble_eq_true rfl) (bd_all rfl) fun w0 F0 hB=>?_;dsimp only [St.init,number,Nat.reduceAdd]
  repeat refine W.go rfl ?_
  refine (?_:WL _ _ _ _ _ _)
  refine WL.vl rfl (WV.call rfl (callF Tryz.func69 rfl rfl) rfl rfl (pSysName_ok s hs)) ?_
  repeat (first|refine W.gob rfl ?_|refine WL.nil ?_|refine WL.nf rfl rfl rfl zqo ?_|refine WL.e1 rfl ?_|refine W.condF rfl ?_)
  refine (?_:WL _ _ _ _ _ _)
  refine WL.vl rfl (WV.callG hB rfl (callF Tryz.func110 rfl rfl) rfl rfl hE) ?_
  repeat (first|refine W.gob rfl ?_|refine WL.nil ?_|refine WL.nf rfl rfl rfl zqo ?_|refine WL.e1 rfl ?_|refine W.condF rfl ?_)
  refine (?_:WL _ _ _ _ _ _)
  refine WL.vl rfl (zqc Tryz.func70 hc) ?_
  repeat (first|refine W.gob rfl ?_|refine WL.nil ?_|refine WL.e1 rfl ?_|refine W.condT rfl ?_)
  refine (?_:W _ _ _ _ _)
  exact W.ret (fin2 rfl rfl rfl rfl rfl rfl rfl)
 rw [(ed_ok hs hx hl).1,(ed_ok hs hx hl).2]
 have hb:((0:Int) == 0 && ((lksR s p).length:Int) == 0)=true:=by rw [hl];rfl
 rw [hb] at hc
 have hOn:=pOnsets_FS p hO
 rw [if_pos h0,h0] at hOn
 have hMe:=pMeasures_FS p hO
 have e4:meaR p=mea p.evs p.evs.length:=if_pos h0
 rw [e4,h0] at hMe
 have hml:=mea_length p.evs p.evs.length
 have hmb:=mea_bd p.evs p.evs.length
 have hol:=onsL_length p.evs p.evs.length
 have hnil:∀ i (h:i < p.evs.length),lackE s p i p.evs[i]=[]:=fun i h=>lksTo_none p.evs.length (Nat.le_refl _) (by rw [← hlR];exact hl) i h h
 have hMh:∃ x r,mea p.evs p.evs.length=x::r∧x.1=0:=by
  obtain ⟨n,hn⟩:∃ n,p.evs.length=n+1:=⟨p.evs.length - 1,by omega⟩
  rw [hn];exact mea_head p.evs n
 obtain ⟨MS,hMS⟩:∃ L,mea p.evs p.evs.length=L:=⟨_,rfl⟩
 obtain ⟨L,hL⟩:∃ L,engL p key=L:=⟨_,rfl⟩
 rw [hMS] at hMe hml hmb hMh ⊢
 rw [hL] at hE hsf hsl ⊢
 refine Ctg.intro stabB Tryz.func50 rfl Tryz.ntmps50 (Nat.le_of_ble_eq_true rfl) (bd_all rfl) fun w0 F0 hB=>?_;dsimp only [St.init,number,Nat.reduceAdd]
 repeat refine W.go rfl ?_
 refine (?_:WL _ _ _ _ _ _)
 refine WL.vl rfl (WV.call rfl (callF Tryz.func69 rfl rfl) rfl rfl (pSysName_ok s hs)) ?_
 repeat (first|refine W.gob rfl ?_|refine WL.nil ?_|refine WL.nf rfl rfl rfl zqo ?_|refine WL.e1 rfl ?_|refine W.condF rfl ?_)
 refine (?_:WL _ _ _ _ _ _)
 refine WL.vl rfl (WV.callG hB rfl (callF Tryz.func110 rfl rfl) rfl rfl hE) ?_
 repeat (first|refine W.gob rfl ?_|refine WL.nil ?_|refine WL.nf rfl rfl rfl zqo ?_|refine WL.e1 rfl ?_|refine W.condF rfl ?_)
 refine (?_:WL _ _ _ _ _ _)
 refine WL.vl rfl (zqc Tryz.func70 hc) ?_
 repeat (first|refine W.gob rfl ?_|refine WL.nil ?_|refine WL.e1 rfl ?_|refine W.condF rfl ?_)
 refine (?_:WL _ _ _ _ _ _)
 refine WL.vl rfl (zqc Tryz.func111 hOn) ?_
 repeat (first|refine W.gob rfl ?_|refine WL.nil ?_|refine WL.e1 rfl ?_)
 refine (?_:WL _ _ _ _ _ _)
 refine WL.vl rfl (zqc Tryz.func112 hMe) ?_
 repeat (first|refine W.gob rfl ?_|refine WL.nil ?_|refine WL.e1 rfl ?_|refine WL.len rfl rfl zql ?_)
 refine (?_:W _ _ _ _ _)
 first|refine W.tr (Tr.bld 1 5 rfl) ?_|refine WL.tr (Tr.bld 1 5 rfl) ?_
 dsimp only [St.upd]
 refine (?_:W _ _ _ _ _)
 refine W.loop (fun k:Nat=>k≤p.evs.length∧mAt MS k≤MS.length∧(mAt MS k≠0→∃ x,MS[mAt MS k - 1]?=some x∧x.1≤k)∧(edB s p MS L k).length≤1300000*k) (fun k=>⟨[(2,.sc (.int .u8 s)),(3,.pt 0 0 0),(10,.ls 4 ((rsT L k).map eSf)),(12,.ls 1 ((onsL p.evs p.evs.length).map eInt)),(14,.ls 3 (MS.map eMea)),(16,.pt 1 0 0),(17,.sc (.int .i64 (mAt MS k:Nat))),(57,.ls 6 (p.evs.map eEv)),(58,.sc (.int .i64 p.evs.length)),(59,.sc (.int .i64 k))],[(0,.box 28 (ePce p).cells),(1,.bld 109 5 (edB s p MS L k))],2⟩) (fun k=>p.evs.length - k) 0 ⟨by omega,Nat.zero_le _,fun h=>absurd rfl h,by simp [edB]⟩ (zqt id) fun k hk=>?_
 obtain ⟨hk1,hmL,hmF,hBl⟩:=hk
 by_cases hlt:k < p.evs.length
 rotate_left
 ·obtain rfl:k=p.evs.length:=by omega
  have hBn:edB s p MS L p.evs.length≠[]:=by
   obtain ⟨n,hn⟩:∃ n,p.evs.length=n+1:=⟨p.evs.length - 1,by omega⟩
   rw [hn]
   unfold edB
   rw [edN_at (by omega)]
   unfold edR
   simp
  repeat (first|refine W.gob rfl ?_|refine WL.nil ?_|refine WL.bf rfl rfl rfl zqo ?_|refine W.condF rfl ?_)
  refine (?_:WL _ _ _ _ _ _)
  refine WL.bs rfl rfl rfl (callF Tryz.func59 rfl rfl) bldS_ok hBn ?_
  repeat (first|refine WL.nil ?_|refine WL.e1 rfl ?_)
  refine (?_:W _ _ _ _ _)
  exact W.ret (fin2 rfl rfl rfl rfl rfl rfl rfl)
 obtain ⟨ev,hev⟩:∃ e,p.evs[k]=e:=⟨_,rfl⟩
 have hcx:=colX_ok hs zqo hlt (hnil k hlt)
 have hcol:=pColumn_FS s p hO k
 rw [hcx.1,hcx.2] at hcol
 have hcl:=colS_len hs hO h0 k hlt
 have hNk:=edN_at (s:=s) (p:=p) (MS:=MS) (L:=L) hlt
 rw [hev] at hcol hcl hNk
 repeat (first|refine W.gob rfl ?_|refine WL.nil ?_|refine WL.bt rfl rfl rfl zqo ?_|refine WL.e1 rfl ?_|refine WL.idx rfl rfl zqo zqm ?_|refine W.condT rfl ?_)
 refine (?_:W _ _ _ _ _)
 rw [hev]
 obtain ⟨B,hBq⟩:∃ B,edB s p MS L k=B:=⟨_,rfl⟩
 have hBs:edB s p MS L (k+1)=B++edN s p MS L k:=by rw [← hBq];rfl
 rw [hBq] at hBl ⊢
 refine W.loop (fun m:Nat=>m≤MS.length∧nextF MS k (mAt MS k)=nextF MS k m∧(m≠0→∃ x,MS[m - 1]?=some x∧x.1≤k)) (fun m=>⟨[(2,.sc (.int .u8 s)),(3,.pt 0 0 0),(10,.ls 4 ((rsT L k).map eSf)),(12,.ls 1 ((onsL p.evs p.evs.length).map eInt)),(14,.ls 3 (MS.map eMea)),(16,.pt 1 0 0),(17,.sc (.int .i64 (m:Nat))),(18,.sc (.int .i64 k)),(19,.pt 2 0 0),(57,.ls 6 (p.evs.map eEv)),(58,.sc (.int .i64 p.evs.length)),(59,.sc (.int .i64 k))],[(0,.box 28 (ePce p).cells),(1,.bld 109 5 B),(2,.box 36 (eEv ev))],3⟩) (fun m=>MS.length - m) (mAt MS k) ⟨hmL,rfl,hmF⟩ (zqt id) fun m hm=>?_
 obtain ⟨hm1,hm3,hm4⟩:=hm
 by_cases hgo:∃ h:m < MS.length,MS[m].1≤k
 ·obtain ⟨h1,h2⟩:=hgo
  repeat (first|refine W.gob rfl ?_|refine WL.nil ?_|refine WL.bt rfl rfl rfl zqo ?_|refine WL.e1 rfl ?_|refine WL.gyes rfl rfl rfl rfl ?_|refine WL.ar rfl rfl (by unfold I64;omega) ?_|refine WL.len rfl rfl zql ?_|refine WL.idx rfl rfl zqo zqm ?_|refine W.condT rfl ?_)
  refine ⟨m+1,⟨by omega,hm3.trans (nextF_step h1 h2),fun _=>⟨MS[m],by simp [h1],h2⟩⟩,by omega,?_⟩
  exact (zqt id)
 have hm0:m≠0:=fun h=>by
  obtain ⟨y,r,hy1,hy2⟩:=hMh
  subst hy1 h
  exact hgo ⟨by simp,by show y.1≤_;omega⟩
 obtain ⟨x,hx1,hx2⟩:=hm4 hm0
 have hmA:mAt MS (k+1)=m:=by
  show nextF MS k (mAt MS k)=m
  rw [hm3]
  by_cases h:m < MS.length
  ·exact nextF_no h (fun h2=>hgo ⟨h,h2⟩)
  ·exact nextF_end zqo
 have hxb:=(hmb x (List.mem_of_getElem? hx1)).1
 refine W.seq ?_
 refine W.seqM ⟨[(76,.sc (.bool false)),(2,.sc (.int .u8 s)),(3,.pt 0 0 0),(10,.ls 4 ((rsT L k).map eSf)),(12,.ls 1 ((onsL p.evs p.evs.length).map eInt)),(14,.ls 3 (MS.map eMea)),(16,.pt 1 0 0),(17,.sc (.int .i64 (m:Nat))),(18,.sc (.int .i64 k)),(19,.pt 2 0 0),(57,.ls 6 (p.evs.map eEv)),(58,.sc (.int .i64 p.evs.length)),(59,.sc (.int .i64 k))],[(0,.box 28 (ePce p).cells),(1,.bld 109 5 B),(2,.box 36 (eEv ev))],3⟩ ?_ ?_
 ·have hno:MS.length≤m∨(∃ h:m < MS.length,¬ MS[m].1≤k):=by
   by_cases h:m < MS.length
   ·exact .inr ⟨h,fun h2=>hgo ⟨h,h2⟩⟩
   ·exact .inl zqo
  rcases hno with h|⟨h1,h2⟩
  all_goals
   repeat (first|refine W.gob rfl ?_|refine WL.nil ?_|refine WL.bt rfl rfl rfl zqo ?_|refine WL.bf rfl rfl rfl zqo ?_|refine WL.e1 rfl ?_|refine WL.gyes rfl rfl rfl rfl ?_|refine WL.opno rfl rfl rfl rfl rfl rfl rfl ?_|refine WL.len rfl rfl zql ?_|refine WL.idx rfl rfl zqo zqm ?_)
   refine (?_:Tr _ _ _)
   exact (zqt id)
 repeat (first|refine W.go rfl ?_|refine W.condF rfl ?_)
 refine (?_:W _ _ _ _ _)
 obtain ⟨t0,ht0⟩:∃ t:List UInt8,(if ev.tie=true then [126] else [37])=t:=⟨_,rfl⟩
 have ht0l:t0.length≤1:=by rw [← ht0];split<;>simp
 refine W.meet ⟨[(20,.sc (.string (bs t0))),(2,.sc (.int .u8 s)),(3,.pt 0 0 0),(10,.ls 4 ((rsT L k).map eSf)),(12,.ls 1 ((onsL p.evs p.evs.length).map eInt)),(14,.ls 3 (MS.map eMea)),(16,.pt 1 0 0),(17,.sc (.int .i64 (m:Nat))),(18,.sc (.int .i64 k)),(19,.pt 2 0 0),(57,.ls 6 (p.evs.map eEv)),(58,.sc (.int .i64 p.evs.length)),(59,.sc (.int .i64 k))],[(0,.box 28 (ePce p).cells),(1,.bld 109 5 B),(2,.box 36 (eEv ev))],3⟩ ?_ ?_
 ·(refine W.cond rfl (fun hif=>?_) (fun hif=>?_)<;>(try simp only [decide_eq_true_eq,decide_eq_false_iff_not,Int.not_lt,Int.not_le,Bool.not_eq_true',Bool.not_eq_false'] at hif))
  ·have hif2:ev.tie=true:=hif
   rw [if_pos hif2] at ht0
   subst ht0
   repeat refine W.go rfl ?_
   refine (?_:Tr _ _ _)
   exact (zqt id)
  ·have hif2:¬ ev.tie=true:=by simpa using hif
   rw [if_neg hif2] at ht0
   subst ht0
   repeat refine W.go rfl ?_
   refine (?_:Tr _ _ _)
   exact (zqt id)
 repeat refine W.go rfl ?_
 refine (?_:W _ _ _ _ _)
 refine W.tr (Tr.nil (t:=21) 9 1 rfl rfl) ?_
 dsimp only [St.put,St.new,St.upd,Nat.reduceAdd]
 obtain ⟨rs,hrs⟩:∃ r,rsT L k=r:=⟨_,rfl⟩
 have hrsub:=rsT_sub L k
 rw [hrs] at hrsub ⊢
 refine W.loop (fun q:Nat=>q≤rs.length∧∀ y∈rs.take q,y.1=(k:Int)) (fun q=>⟨[(20,.sc (.string (bs t0))),(21,.sl 3),(2,.sc (.int .u8 s)),(3,.pt 0 0 0),(10,.ls 4 ((rs.drop q).map eSf)),(12,.ls 1 ((onsL p.evs p.evs.length).map eInt)),(14,.ls 3 (MS.map eMea)),(16,.pt 1 0 0),(17,.sc (.int .i64 (m:Nat))),(18,.sc (.int .i64 k)),(19,.pt 2 0 0),(57,.ls 6 (p.evs.map eEv)),(58,.sc (.int .i64 p.evs.length)),(59,.sc (.int .i64 k))],[(0,.box 28 (ePce p).cells),(1,.bld 109 5 B),(2,.box 36 (eEv ev)),(3,.row 9 1 (((rs.take q).map sfT).map eStr))],4⟩) (fun q=>rs.length - q) 0 ⟨Nat.zero_le _,by simp⟩ (zqt id) fun q hq=>?_
 obtain ⟨hq1,hq2⟩:=hq
 obtain ⟨R,hR⟩:∃ R,rs.drop q=R:=⟨_,rfl⟩
 have hRl:R.length=rs.length - q:=by rw [← hR,List.length_drop]
 by_cases hgo2:∃ y r,R=y::r∧y.1=(k:Int)
 ·obtain ⟨y,r,rfl,hy⟩:=hgo2
  have hqq:q < rs.length:=by simp only [List.length_cons] at hRl;omega
  have hcons:=List.drop_eq_getElem_cons hqq
  rw [hR] at hcons
  obtain ⟨hy1,hr1⟩:=List.cons.inj hcons
  have htk:=List.take_succ_eq_append_getElem hqq
  rw [← hy1] at htk
  have hySf:SfOk y:=hsf y (hrsub.1 y (by rw [hy1];exact List.getElem_mem hqq))
  have hrow:((rs.take q).map sfT).map eStr++[eStr (sfT y)]=((rs.take (q+1)).map sfT).map eStr:=by rw [htk];simp
  have hpr:prt (eSf y::r.map eSf) 1 ((eSf y::r.map eSf).length:Nat)=r.map eSf:=by unfold prt;simp;rw [List.take_of_length_le (by simp)]
  have hst:=staffed_G y hySf
  have hlc:(eSf y::r.map eSf).length=r.length+1:=by simp
  have hrowl:(rs.take q).length=q:=by rw [List.length_take];omega
  have hrlen:rs.length≤8400:=by omega
  rw [hR,List.map_cons]
  repeat (first|refine W.gob rfl ?_|refine WL.bt rfl rfl rfl zqo ?_|refine WL.e1 rfl ?_|refine WL.gyes rfl rfl rfl rfl ?_|refine WL.len rfl rfl zql ?_)
  refine (?_:WL _ _ _ _ _ _)
  refine WL.idx rfl rfl (by decide) (r:=eSf y) rfl ?_
  repeat (first|refine W.gob rfl ?_|refine WL.nil ?_|refine WL.bt rfl rfl rfl zqo ?_|refine WL.e1 rfl ?_|refine WL.gyes rfl rfl rfl rfl ?_|refine W.condT rfl ?_)
  refine (?_:WL _ _ _ _ _ _)
  refine WL.idx rfl rfl (by decide) (r:=eSf y) rfl ?_
  repeat refine WL.e1 rfl ?_
  refine (?_:WL _ _ _ _ _ _)
  refine WL.vl rfl (WV.callG hB rfl (callF Tryz.func113 rfl rfl) rfl rfl hst) ?_
  repeat (first|refine W.gob rfl ?_|refine WL.nil ?_|refine WL.e1 rfl ?_|refine WL.app rfl rfl rfl zqs ?_)
  refine (?_:WL _ _ _ _ _ _)
  refine WL.part_ rfl rfl ⟨by decide,by simp;omega,Int.le_refl _⟩ hpr ?_
  repeat (first|refine WL.nil ?_|refine WL.e1 rfl ?_)
  refine ⟨q+1,⟨by omega,fun z hz=>?_⟩,by omega,?_⟩
  ·rw [htk] at hz
   rcases List.mem_append.1 hz with hz|hz
   ·exact hq2 z hz
   ·rw [List.mem_singleton] at hz;rw [hz];exact hy
  rw [← hr1]
  exact (zqu (fun q=>bif Nat.beq q 3 then 5 else q) (by repeat (first|exact trivial|refine ⟨⟨?_,?_,?_⟩,?_⟩|rfl|exact congrArg (fun q=>some (AO.row _ _ q)) hrow)) rfl)
 have htd:=take_drop_while (f:=fun z:Sf=>decide (z.1=(k:Int))) hq1 (fun z hz=>by simpa using hq2 z hz) (fun h=>by
  have:=List.drop_eq_getElem_cons h
  rw [hR] at this
  simp only [decide_eq_false_iff_not]
  intro hz
  exact hgo2 ⟨_,_,this,hz⟩)
 have hnm:nmK L k=(rs.take q).map sfT:=by unfold nmK;rw [hrs,htd.1]
 have hrs1:rsT L (k+1)=R:=by
  show (rsT L k).dropWhile _=_
  rw [hrs,htd.2,hR]
 refine W.seq ?_
 refine W.seqM ⟨[(91,.sc (.bool false)),(20,.sc (.string (bs t0))),(21,.sl 3),(2,.sc (.int .u8 s)),(3,.pt 0 0 0),(10,.ls 4 (R.map eSf)),(12,.ls 1 ((onsL p.evs p.evs.length).map eInt)),(14,.ls 3 (MS.map eMea)),(16,.pt 1 0 0),(17,.sc (.int .i64 (m:Nat))),(18,.sc (.int .i64 k)),(19,.pt 2 0 0),(57,.ls 6 (p.evs.map eEv)),(58,.sc (.int .i64 p.evs.length)),(59,.sc (.int .i64 k))],[(0,.box 28 (ePce p).cells),(1,.bld 109 5 B),(2,.box 36 (eEv ev)),(3,.row 9 1 (((rs.take q).map sfT).map eStr))],4⟩ ?_ ?_
 ·have hno:R=[]∨(∃ y r,R=y::r∧¬ y.1=(k:Int)):=by
   cases hRc:R with
   | nil=>exact .inl rfl
   | cons y r=>exact .inr ⟨y,r,rfl,fun h=>hgo2 ⟨y,r,hRc,h⟩⟩
  rw [hR]
  rcases hno with h|⟨y,r,h1,h2⟩
  ·subst h
   rw [List.map_nil]
   repeat (first|refine W.gob rfl ?_|refine WL.nil ?_|refine WL.e1 rfl ?_|refine WL.opno rfl rfl rfl rfl rfl rfl rfl ?_|refine WL.len rfl rfl zql ?_)
   refine (?_:Tr _ _ _)
   exact (zqt id)
  ·subst h1
   have hlc:(eSf y::r.map eSf).length=r.length+1:=by simp
   rw [List.map_cons]
   repeat (first|refine W.gob rfl ?_|refine WL.bt rfl rfl rfl zqo ?_|refine WL.e1 rfl ?_|refine WL.gyes rfl rfl rfl rfl ?_|refine WL.len rfl rfl zql ?_)
   refine (?_:WL _ _ _ _ _ _)
   refine WL.idx rfl rfl (by decide) (r:=eSf y) rfl ?_
   repeat (first|refine WL.nil ?_|refine WL.bf rfl rfl rfl zqo ?_|refine WL.e1 rfl ?_|refine WL.gyes rfl rfl rfl rfl ?_)
   refine (?_:Tr _ _ _)
   exact (zqt id)
 have hrowl:(rs.take q).length=q:=by rw [List.length_take];omega
 have hrsl:rs.length≤8400:=by omega
 have hevl:=evT_len hsf hsl k ev
 have hjl:=join_len [43] (by simp) (nmK L k) (nmK_len hsf hsl k).2
 have hnl:=(nmK_len hsf hsl k).1
 have hJ:=joinS_FS [43] (nmK L k) zqo zqo
 have hevT:evT L k ev=if nmK L k=[] then t0 else Lib.join (nmK L k) [43]:=by unfold evT;rw [ht0]
 rw [← hnm]
 obtain ⟨nm,hnmq⟩:∃ z,nmK L k=z:=⟨_,rfl⟩
 rw [hnmq] at hjl hnl hJ hevT ⊢
 repeat (first|refine W.gob rfl ?_|refine WL.nil ?_|refine WL.e1 rfl ?_|refine WL.len rfl rfl zql ?_|refine W.condF rfl ?_)
 refine (?_:W _ _ _ _ _)
 refine W.meet ⟨[(20,.sc (.string (bs (evT L k ev)))),(2,.sc (.int .u8 s)),(3,.pt 0 0 0),(10,.ls 4 (R.map eSf)),(12,.ls 1 ((onsL p.evs p.evs.length).map eInt)),(14,.ls 3 (MS.map eMea)),(16,.pt 1 0 0),(17,.sc (.int .i64 (m:Nat))),(18,.sc (.int .i64 k)),(19,.pt 2 0 0),(57,.ls 6 (p.evs.map eEv)),(58,.sc (.int .i64 p.evs.length)),(59,.sc (.int .i64 k))],[(0,.box 28 (ePce p).cells),(1,.bld 109 5 B),(2,.box 36 (eEv ev))],4⟩ ?_ ?_
 ·(refine W.cond rfl (fun hif=>?_) (fun hif=>?_)<;>(try simp only [decide_eq_true_eq,decide_eq_false_iff_not,Int.not_lt,Int.not_le,Bool.not_eq_true',Bool.not_eq_false'] at hif))
  ·have hn0:nm≠[]:=fun h=>by rw [h] at hif;simp at hif
   rw [hevT,if_neg hn0]
   obtain ⟨jt,hjt⟩:∃ z,Lib.join nm [43]=z:=⟨_,rfl⟩
   rw [hjt] at hJ ⊢
   repeat (first|refine W.gob rfl ?_|refine WL.e1 rfl ?_)
   refine (?_:WL _ _ _ _ _ _)
   refine WL.tr (Tr.freeze 3 rfl) ?_
   refine WL.vl rfl (zqc Tryz.func114 hJ) ?_
   repeat (first|refine WL.nil ?_|refine WL.e1 rfl ?_)
   refine (?_:Tr _ _ _)
   exact (zqt id)
  ·have hn0:nm=[]:=List.eq_nil_of_length_eq_zero (by first|omega|(simp at hif;omega)|(simpa using hif))
   rw [hevT,if_pos hn0]
   repeat refine W.gob rfl ?_
   refine (?_:Tr _ _ _)
   exact (zqt id)
 repeat (first|refine W.gob rfl ?_|refine WL.e1 rfl ?_)
 refine (?_:WL _ _ _ _ _ _)
 refine WL.vl rfl (zqc Tryz.func115 hcol) ?_
 repeat (first|refine W.gob rfl ?_|refine WL.nil ?_|refine WL.nf rfl rfl rfl zqo ?_|refine WL.e1 rfl ?_|refine W.condF rfl ?_)
 refine (?_:W _ _ _ _ _)
 have hoK:=onsAt_le p.evs k
 have hoF:=onsAt_le p.evs x.1.toNat
 have hm420:m≤420:=by omega
 have hMx:(MS.map eMea)[((m:Int) - 1).toNat]?=some (eMea x):=by
  rw [show ((m:Int) - 1).toNat=m - 1 by omega,List.getElem?_map,hx1];rfl
 have hok1:((onsL p.evs p.evs.length).map eInt)[((k:Nat):Int).toNat]?=some (eInt (onsAt p.evs k)):=by
  rw [Int.toNat_natCast,List.getElem?_map,onsL_at (by omega)];rfl
 have hok2:((onsL p.evs p.evs.length).map eInt)[x.1.toNat]?=some (eInt (onsAt p.evs x.1.toNat)):=by
  rw [List.getElem?_map,onsL_at (by omega)];rfl
 have hfst:fstK MS k=x.1.toNat:=by unfold fstK;rw [hmA,hx1];rfl
 have hsin:sinK p.evs MS k=onsAt p.evs k - onsAt p.evs x.1.toNat:=by unfold sinK;rw [hfst]
 have hR1:edN s p MS L k=Lib.itoa (m:Nat)++[58]++Lib.itoa (onsAt p.evs k - onsAt p.evs x.1.toNat)++[32]++evT L k ev++[32,59,32]++colS s p k ev++[10]:=by
  rw [hNk];unfold edR;rw [hsin,hmA]
 have hsI:I64 (onsAt p.evs k - onsAt p.evs x.1.toNat):=by unfold I64;omega
 have hI1:=itoa_G (m:Nat) (by unfold I64;omega)
 have hI2:=itoa_G _ hsI
 have hl1:=itoa_len (n:=(m:Nat)) zqo
 have hl2:=itoa_len (n:=onsAt p.evs k - onsAt p.evs x.1.toNat) zqo
 obtain ⟨oK,hoKq⟩:∃ z,onsAt p.evs k=z:=⟨_,rfl⟩
 obtain ⟨oF,hoFq⟩:∃ z,onsAt p.evs x.1.toNat=z:=⟨_,rfl⟩
 rw [hoKq] at hoK hok1 hR1 hI2 hl2
 rw [hoFq] at hoF hok2 hR1 hI2 hl2
 obtain ⟨a1,ha1⟩:∃ z,Lib.itoa (m:Nat)=z:=⟨_,rfl⟩
 obtain ⟨a2,ha2⟩:∃ z,Lib.itoa (oK - oF)=z:=⟨_,rfl⟩
 obtain ⟨et,het⟩:∃ z,evT L k ev=z:=⟨_,rfl⟩
 obtain ⟨co,hco⟩:∃ z,colS s p k ev=z:=⟨_,rfl⟩
 rw [ha1] at hI1 hl1 hR1
 rw [ha2] at hI2 hl2 hR1
 rw [het] at hevl hR1 ⊢
 rw [hco] at hcl hR1 ⊢
 have c1:(a1++[58]).length≤21:=by simp only [List.length_append,List.length_cons,List.length_nil];omega
 have c2:(a1++[58]++a2).length≤41:=by rw [List.length_append];omega
 have c3:(a1++[58]++a2++[32]).length≤42:=by rw [List.length_append];simp only [List.length_cons,List.length_nil];omega
 have c4:(a1++[58]++a2++[32]++et).length≤200042:=by rw [List.length_append];omega
 have c5:(a1++[58]++a2++[32]++et++[32,59,32]).length≤200045:=by rw [List.length_append];simp only [List.length_cons,List.length_nil];omega
 have c6:(a1++[58]++a2++[32]++et++[32,59,32]++co).length≤1200045:=by rw [List.length_append];omega
 have c7:(a1++[58]++a2++[32]++et++[32,59,32]++co++[10]).length≤1200046:=by rw [List.length_append];simp only [List.length_cons,List.length_nil];omega
 have hm3':1≤m:=by omega
 have hmL2:=Lib.hid hm1
 clear hol hm1 hm4 hm3
 refine W.drawK zqk zqk ?_
 repeat refine DK.st rfl ?_
 refine DK.idx rfl rfl zqo hok1 ?_
 repeat (first|refine DK.st rfl ?_|refine DK.ar rfl rfl (by unfold I64;omega) ?_)
 refine DK.idx rfl rfl zqo hMx ?_
 repeat refine DK.st rfl ?_
 refine DK.idx rfl rfl zqo hok2 ?_
 repeat (first|refine DK.st rfl ?_|refine DK.ar rfl rfl (by unfold I64;omega) ?_|refine DK.nil ?_)
 repeat (first|refine W.gob rfl ?_|refine WL.e1 rfl ?_)
 refine (?_:WL _ _ _ _ _ _)
 refine WL.vl rfl (WV.callG hB rfl (callF Tryz.func116 rfl rfl) rfl rfl hI1) ?_
 repeat (first|refine WL.e1 rfl ?_|refine WL.cat rfl rfl zqs ?_)
 refine (?_:WL _ _ _ _ _ _)
 refine WL.vl rfl (WV.callG hB rfl (callF Tryz.func116 rfl rfl) rfl rfl hI2) ?_
 repeat (first|refine WL.e1 rfl ?_|refine WL.cat rfl rfl zqs ?_)
 refine (?_:WL _ _ _ _ _ _)
 have hrow:B++(a1++[58]++a2++[32]++et++[32,59,32]++co++[10])=edB s p MS L (k+1):=by rw [hBs,hR1]
 have hBn:(edB s p MS L (k+1)).length≤1300000*(k+1):=by rw [← hrow,List.length_append];omega
 refine WL.bw rfl rfl rfl (callF Tryz.func58 rfl rfl) bldW_ok zqo hrow ?_
 repeat (first|refine W.gob rfl ?_|refine WL.nil ?_|refine WL.e1 rfl ?_|refine WL.ar rfl rfl (by unfold I64;omega) ?_)
 refine ⟨k+1,⟨by omega,by rw [hmA];exact hmL2,fun _=>⟨x,by rw [hmA];exact hx1,by omega⟩,hBn⟩,by omega,?_⟩
 rw [hrs1,hmA]
 exact (zqu (fun q=>q) (by repeat (first|exact trivial|refine ⟨⟨?_,?_,?_⟩,?_⟩|rfl|exact congrArg (fun q=>some (AO.row _ _ q)) (by first|rfl|(simp;done)|(simp [eInt];done)|(simp [eLk];done)))) rfl)
end
section
open Go.RowKit
theorem bldS0 (w:World) (b:Nat) (p:Value) (hbk:w.heap[b]?=some (.cells #[p,.slice none 0 0] 109 (0,0))) :
  Calls Tryz.prog 59 #[.pointer (some ⟨b,0,none⟩)] w fun e w'=>e=.returned (.string (bs []))∧w'=w.drew:=by
 have c1:w.drew.cell? ⟨b,1,none⟩=some (.slice none 0 0):=by
  have:w.drew.heap[b]?=some (.cells #[p,.slice none 0 0] 109 (0,0)):=hbk
  rw [Lib.cell_of_heap this];rfl
 have hUS:(Builtin.unsafeString_ #[202,3] 9 #[.pointer none,.int .i64 0]).run Tryz.prog w.drew=.ok (.string .empty) w.drew:=Lib.run_unsafeString_none _ _ _ _ _
 have hSD:(Builtin.unsafeSliceData_ #[57] 202 #[.slice none 0 0]).run Tryz.prog w.drew=.ok (.pointer none) w.drew:=Lib.run_unsafeSliceData_nil _ _ _ _ _
 have mixed:Tryz.prog.follows .mixedOrders=true:=by kernel_rfl
 go_enter Tryz.func59,Tryz.ntmps59
 go_wp2
 go_region_o
 all_goals (go_wp2;go_ret;exact ⟨rfl,rfl⟩)
theorem WV.box2 {P:Program} {C:Cx} {o:Oper} {σ:St} {f:FuncId} {k:Nat} {x:Operand} {ts:Array TypeId} {T:TypeId} {c1 c2 v:Value} (ho:o.op=.call { callee:=.value (.func f),args:=#[x],argTypes:=ts }) (hc:∀ vs w,(callFunc f vs).run P w=.ok (.enter f vs) w)
  (hx:σ.ev x=some (.pt k 0 0)) (hk:look k σ.M=some (.box T [.sc c1,.sc c2])) (h:∀ w b,w.heap[b]?=some (.cells #[c1,c2] T (0,0))→Calls P f #[.pointer (some ⟨b,0,none⟩)] w fun e w'=>e=.returned v∧w'=w.drew):WV P C o σ (.sc v):=by
 intro G a w ok N Q' hN
 obtain ⟨p,ep,p1,p2,p3⟩:=(ok.evr hx).2.pt_of
 obtain ⟨h1,cs,Φ,hB,hsz,_,_,hcs⟩:=(ok.ob k _ hk).2.2
 obtain rfl:=addr_eq p1 p2 p3
 rw [Nat.zero_mul] at ep
 have hsz:cs.size=2:=hsz
 have g:∀ i (h:i<2),cs[i]?=some (cs[i]'(by omega)):=fun i h=>Array.getElem?_eq_getElem (by omega)
 have e1:=(CR.r (hcs 0 _ _ rfl (g 0 zqo)) rfl).sc_eq
 have e2:=(CR.r (hcs 1 _ _ rfl (g 1 zqo)) rfl).sc_eq
 have ecs:cs=#[c1,c2]:=by
  apply Array.ext (by simp [hsz])
  intro i hi hi2
  match i,(show i<2 by omega) with
  | 0,_=>exact e1
  | 1,_=>exact e2
 subst ecs
 unfold Oper.wp execOp
 have ev:a.eval (.func f)=.func (.func f) #[] #[]:=rfl
 have e3:(#[]++(#[x]:Array Operand).map a.eval++#[]:Array Value)=#[.pointer (some ⟨G.b k,0,none⟩)]:=by simp [ep]
 simp only [ho,resolve,ev,Deferred.ofValue,invoke,Sem.run_bind,Sem.run_pure,Result.andThen_ok,hc,Oper.upon,e3]
 refine (h w (G.b k) hB).mono fun e w1 ⟨he,hw⟩=>?_
 subst he hw
 exact hN _ G _ (fun σ'' a'' ok''=>ok''.drew) (.pu _ _ (.sc _)) (.sc _)
end
section
open Go.RowKit
theorem pEdition_G0 (s:Int) (p:Pce) (hO:PcOk p) (key:Int) (hne:p.evs.length=0):Ctg tabB Tryz.prog 50 [ePce p,.sc (.int .i64 key),.sc (.int .u8 s)] (.tu [.sc (.string (bs (edT s p key))),.sc (.int .i64 (edX s p key))]):=by
 have hn3:=hO.n3
 by_cases hs:1≤s∧s≤4
 rotate_left
 ·rw [(ed_sys hs).1,(ed_sys hs).2]
  refine Ctg.intro stabB Tryz.func50 rfl Tryz.ntmps50 (Nat.le_of_ble_eq_true rfl) (bd_all rfl) fun w0 F0 hB=>?_;dsimp only [St.init,number,Nat.reduceAdd]
  repeat refine W.go rfl ?_
  refine (?_:WL _ _ _ _ _ _)
  refine WL.vl rfl (WV.call rfl (callF Tryz.func69 rfl rfl) rfl rfl (pSysName_bad s hs)) ?_
  repeat (first|refine W.gob rfl ?_|refine WL.nil ?_|refine WL.nt rfl rfl rfl zqo ?_|refine WL.e1 rfl ?_|refine W.condT rfl ?_)
  refine (?_:W _ _ _ _ _)
  exact W.ret (fin2 rfl rfl rfl rfl rfl rfl rfl)
 have hE:=pEngrave_FS p hO key
 by_cases hx:engX p key=0
 rotate_left
 ·rw [(ed_eng hs hx).1,(ed_eng hs hx).2]
  obtain ⟨E,hEq⟩:∃ E,engX p key=E:=⟨_,rfl⟩
  rw [hEq] at hx hE ⊢
  refine Ctg.intro stabB Tryz.func50 rfl Tryz.ntmps50 (Nat.le_of_ble_eq_true rfl) (bd_all rfl) fun w0 F0 hB=>?_;dsimp only [St.init,number,Nat.reduceAdd]
  repeat refine W.go rfl ?_
  refine (?_:WL _ _ _ _ _ _)
  refine WL.vl rfl (WV.call rfl (callF Tryz.func69 rfl rfl) rfl rfl (pSysName_ok s hs)) ?_
  repeat (first|refine W.gob rfl ?_|refine WL.nil ?_|refine WL.nf rfl rfl rfl zqo ?_|refine WL.e1 rfl ?_|refine W.condF rfl ?_)
  refine (?_:WL _ _ _ _ _ _)
  refine WL.vl rfl (WV.callG hB rfl (callF Tryz.func110 rfl rfl) rfl rfl hE) ?_
  repeat (first|refine W.gob rfl ?_|refine WL.nil ?_|refine WL.nt rfl rfl rfl zqo ?_|refine WL.e1 rfl ?_|refine W.condT rfl ?_)
  refine (?_:W _ _ _ _ _)
  exact W.ret (fin2 rfl rfl rfl rfl rfl rfl rfl)
 obtain ⟨h0,hsf,hsl⟩:=engL_ok hO hx
 have hlE:=(lks_ok hs h0).2
 have hlR:=(lks_ok hs h0).1
 have hc:=pCan_FS s p hO
 rw [hlE] at hc
 rw [hx] at hE
 by_cases hl:lksR s p=[]
 rotate_left
 ·rw [(ed_no hs hx hl).1,(ed_no hs hx hl).2]
  have hb:((0:Int) == 0 && ((lksR s p).length:Int) == 0)=false:=by
   have:(lksR s p).length≠0:=fun h=>hl (List.eq_nil_of_length_eq_zero h)
   simp;omega
  rw [hb] at hc
  refine Ctg.intro stabB Tryz.func50 rfl Tryz.ntmps50 (Nat.le_of_ble_eq_true rfl) (bd_all rfl) fun w0 F0 hB=>?_;dsimp only [St.init,number,Nat.reduceAdd]
  repeat refine W.go rfl ?_
  refine (?_:WL _ _ _ _ _ _)
  refine WL.vl rfl (WV.call rfl (callF Tryz.func69 rfl rfl) rfl rfl (pSysName_ok s hs)) ?_
  repeat (first|refine W.gob rfl ?_|refine WL.nil ?_|refine WL.nf rfl rfl rfl zqo ?_|refine WL.e1 rfl ?_|refine W.condF rfl ?_)
  refine (?_:WL _ _ _ _ _ _)
  refine WL.vl rfl (WV.callG hB rfl (callF Tryz.func110 rfl rfl) rfl rfl hE) ?_
  repeat (first|refine W.gob rfl ?_|refine WL.nil ?_|refine WL.nf rfl rfl rfl zqo ?_|refine WL.e1 rfl ?_|refine W.condF rfl ?_)
  refine (?_:WL _ _ _ _ _ _)
  refine WL.vl rfl (zqc Tryz.func70 hc) ?_
  repeat (first|refine W.gob rfl ?_|refine WL.nil ?_|refine WL.e1 rfl ?_|refine W.condT rfl ?_)
  refine (?_:W _ _ _ _ _)
  exact W.ret (fin2 rfl rfl rfl rfl rfl rfl rfl)
 rw [(ed_ok hs hx hl).1,(ed_ok hs hx hl).2]
 have hb:((0:Int) == 0 && ((lksR s p).length:Int) == 0)=true:=by rw [hl];rfl
 rw [hb] at hc
 have hOn:=pOnsets_FS p hO
 rw [if_pos h0,h0] at hOn
 have hMe:=pMeasures_FS p hO
 have e4:meaR p=mea p.evs p.evs.length:=if_pos h0
 rw [e4,h0] at hMe
 have hml:=mea_length p.evs p.evs.length
 have hmb:=mea_bd p.evs p.evs.length
 have hol:=onsL_length p.evs p.evs.length
 have hnil:∀ i (h:i < p.evs.length),lackE s p i p.evs[i]=[]:=fun i h=>lksTo_none p.evs.length (Nat.le_refl _) (by rw [← hlR];exact hl) i h h
 obtain ⟨MS,hMS⟩:∃ L,mea p.evs p.evs.length=L:=⟨_,rfl⟩
 obtain ⟨L,hL⟩:∃ L,engL p key=L:=⟨_,rfl⟩
 rw [hMS] at hMe hml hmb ⊢
 rw [hL] at hE hsf hsl ⊢
 refine Ctg.intro stabB Tryz.func50 rfl Tryz.ntmps50 (Nat.le_of_ble_eq_true rfl) (bd_all rfl) fun w0 F0 hB=>?_;dsimp only [St.init,number,Nat.reduceAdd]
 repeat refine W.go rfl ?_
 refine (?_:WL _ _ _ _ _ _)
 refine WL.vl rfl (WV.call rfl (callF Tryz.func69 rfl rfl) rfl rfl (pSysName_ok s hs)) ?_
 repeat (first|refine W.gob rfl ?_|refine WL.nil ?_|refine WL.nf rfl rfl rfl zqo ?_|refine WL.e1 rfl ?_|refine W.condF rfl ?_)
 refine (?_:WL _ _ _ _ _ _)
 refine WL.vl rfl (WV.callG hB rfl (callF Tryz.func110 rfl rfl) rfl rfl hE) ?_
 repeat (first|refine W.gob rfl ?_|refine WL.nil ?_|refine WL.nf rfl rfl rfl zqo ?_|refine WL.e1 rfl ?_|refine W.condF rfl ?_)
 refine (?_:WL _ _ _ _ _ _)
 refine WL.vl rfl (zqc Tryz.func70 hc) ?_
 repeat (first|refine W.gob rfl ?_|refine WL.nil ?_|refine WL.e1 rfl ?_|refine W.condF rfl ?_)
 refine (?_:WL _ _ _ _ _ _)
 refine WL.vl rfl (zqc Tryz.func111 hOn) ?_
 repeat (first|refine W.gob rfl ?_|refine WL.nil ?_|refine WL.e1 rfl ?_)
 refine (?_:WL _ _ _ _ _ _)
 refine WL.vl rfl (zqc Tryz.func112 hMe) ?_
 have hev0:p.evs=[]:=List.eq_nil_of_length_eq_zero hne
 have hB0:edB s p MS L p.evs.length=[]:=by rw [hne];rfl
 rw [hB0]
 repeat (first|refine W.gob rfl ?_|refine WL.nil ?_|refine WL.e1 rfl ?_|refine WL.len rfl rfl zql ?_)
 refine (?_:W _ _ _ _ _)
 refine W.loop (fun k:Nat=>k=0) (fun k=>⟨[(2,.sc (.int .u8 s)),(3,.pt 0 0 0),(16,.pt 1 0 0),(57,.ls 6 (p.evs.map eEv)),(58,.sc (.int .i64 p.evs.length)),(59,.sc (.int .i64 k))],[(0,.box 28 (ePce p).cells),(1,.box 109 [.sc (.pointer none),.sc (.slice none 0 0)])],2⟩) (fun k=>k) 0 rfl (zqt id) fun k hk=>?_
 subst hk
 repeat (first|refine W.gob rfl ?_|refine WL.nil ?_|refine WL.bf rfl rfl rfl zqo ?_|refine W.condF rfl ?_)
 refine (?_:WL _ _ _ _ _ _)
 refine WL.vl rfl (WV.box2 rfl (callF Tryz.func59 rfl rfl) rfl rfl fun w b=>bldS0 w b _) ?_
 repeat (first|refine WL.nil ?_|refine WL.e1 rfl ?_)
 refine (?_:W _ _ _ _ _)
 exact W.ret (fin2 rfl rfl rfl rfl rfl rfl rfl)
theorem pEdition_G (s:Int)(p:Pce)(hO:PcOk p)(key:Int):Ctg tabB Tryz.prog 50 [ePce p,.sc (.int .i64 key),.sc (.int .u8 s)] (.tu [.sc (.string (bs (edT s p key))),.sc (.int .i64 (edX s p key))]):=by
 by_cases h:p.evs.length=0
 ·exact pEdition_G0 s p hO key h
 ·exact pEdition_G1 s p hO key zqo
end
section
open Go.RowKit
def p11:Pce:=⟨[(67,3,false)],[1,2,3],[⟨false,4,false,false,false,[(1,1,0,0,0)]⟩,⟨false,0,false,false,false,[(1,0,0,0,0)]⟩]⟩
theorem p11_ok:PcOk p11:=pcOk_of2 (by decide +kernel)
theorem inc11:incE p11 4=0∧incL p11 4=[-1]:=by decide +kernel
theorem edx11:edX 1 p11 0=0:=by decide +kernel
theorem edt11:edT 1 p11 0=[49,58,48,32,71,35,52,32,59,32,67,32,98,10,49,58,52,56,32,71,61,52,32,59,32,45,32,97,10]:=by decide +kernel
theorem works11_G:Ctg tabB Tryz.prog 15 [] (.sc (.bool true)):=by
 have hE:=pEdition_G 1 p11 p11_ok 0
 have hI:=pIncipit_FS p11 p11_ok 4
 rw [edt11,edx11] at hE
 rw [inc11.1,inc11.2] at hI
 refine Ctg.intro stabB Tryz.func15 rfl Tryz.ntmps15 (Nat.le_of_ble_eq_true rfl) (bd_all rfl) fun w0 F0 hB=>?_;dsimp only [St.init,number,Nat.reduceAdd]
 repeat refine W.go rfl ?_
 refine (?_:WL _ _ _ _ _ _)
 refine WL.tr (Tr.freeze 0 rfl) ?_
 refine WL.tr (Tr.freeze 1 rfl) ?_
 refine WL.tr (Tr.freeze 3 rfl) ?_
 refine WL.tr (Tr.freeze 4 rfl) ?_
 repeat (first|refine W.go rfl ?_|refine WL.ev rfl ?_)
 refine (?_:WL _ _ _ _ _ _)
 refine WL.tr (Tr.freeze 5 rfl) ?_
 refine WL.vl rfl (WV.callG hB rfl (callF Tryz.func50 rfl rfl) rfl rfl hE) ?_
 repeat (first|refine W.go rfl ?_|refine WL.ev rfl ?_)
 refine (?_:WL _ _ _ _ _ _)
 refine WL.vl rfl (zqc Tryz.func48 hI) ?_
 repeat (first|refine W.gob rfl ?_|refine WL.nil ?_|refine WL.bt rfl rfl rfl zqo ?_|refine WL.e1 rfl ?_|refine WL.gyes rfl rfl rfl rfl ?_|refine WL.len rfl rfl zql ?_)
 refine (?_:WL _ _ _ _ _ _)
 refine WL.idx rfl rfl zqo rfl ?_
 repeat (first|refine WL.nil ?_|refine WL.bt rfl rfl rfl zqo ?_|refine WL.e1 rfl ?_|refine WL.gyes rfl rfl rfl rfl ?_)
 refine (?_:W _ _ _ _ _)
 exact W.ret zqr
end
section
open Go.RowKit
def longB (p:Pce):Bool:=bigB p|| decide (60<p.evs.length)
theorem long_FS (p:Pce):Ctr Tryz.prog 14 [ePce p] (.sc (.bool (longB p))):=by
 refine zqe Tryz.func14 Tryz.ntmps14 fun w0 F0=>?_;dsimp only [St.init,number,Nat.reduceAdd]
 repeat refine W.go rfl ?_
 refine (?_:WL _ _ _ _ _ _)
 refine WL.vl rfl (WV.call rfl (callF Tryz.func49 rfl rfl) rfl rfl (big_FS p)) ?_
 repeat refine WL.ev rfl ?_
 refine (?_:WL _ _ _ _ _ _)
 refine WL.partG rfl rfl rfl rfl (fun hp=>?_) (fun hp=>?_)
 ·repeat (first|refine WL.ev rfl ?_|refine WL.opno rfl rfl rfl rfl rfl rfl rfl ?_)
  refine (?_:W _ _ _ _ _)
  exact W.ret (fin1 rfl rfl (sc_bool (by unfold longB;rw [hp];rfl)) rfl)
 ·repeat (first|refine WL.ev rfl ?_|refine WL.gyes rfl rfl rfl rfl ?_|refine WL.len rfl rfl zql ?_)
  refine (?_:W _ _ _ _ _)
  refine W.ret (fin1 rfl rfl (sc_bool ?_) rfl)
  unfold longB
  rw [hp,Bool.false_or]
  show decide _=decide _
  rw [decide_eq_decide];omega
theorem pcOk_of3 {p:Pce} (h:longB p=false):PcOk p:=pcOk_of2 (p:=p) (by unfold longB at h;simp only [Bool.or_eq_false_iff]at h;exact h.1)
end
end Go.Proofs.YtgelfflighgajaaGreatDoor
