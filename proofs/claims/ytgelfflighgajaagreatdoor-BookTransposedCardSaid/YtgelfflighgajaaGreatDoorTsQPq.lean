/- The book of a piece and of itself on the transposed instrument: plain. -/
import Derived.Test.YtgelfflighgajaaGreatDoorOpPq
import Derived.Test.YtgelfflighgajaaGreatDoorSo5Pq
import Derived.Test.YtgelfflighgajaaGreatDoorSavPPq
set_option maxHeartbeats 8000000
set_option maxRecDepth 100000
set_option linter.unusedVariables false
set_option linter.unusedSimpArgs false
namespace Go.Proofs.YtgelfflighgajaaGreatDoor
section
open Go.RowKit Go.WideShapes Go.ChangeShapes Go.Joins Go.Deep
theorem z52o {p:Prop} (h:p:=by omega):p:=h
section
variable {H:Type} {enc:TypeId×Value→H} {w:World} {base:Nat} {spare:Nat→Bool} {held:Bool}
theorem cellsStop':Tryz.prog.cellsOf 100=5:=by kernel_rfl
theorem cellsEvent:Tryz.prog.cellsOf 36=6:=by kernel_rfl
theorem cellsSign':Tryz.prog.cellsOf 33=3:=by kernel_rfl
theorem cellsStops:Tryz.prog.cellsOf 34=1:=by kernel_rfl
theorem cellsEvents:Tryz.prog.cellsOf 26=1:=by kernel_rfl
theorem cellsPiece:Tryz.prog.cellsOf 28=3:=by kernel_rfl
theorem open_stops {n:Nat} {v:Value} {x:DataW H×List MemPlace} (h:DataW.trod enc Tryz.prog w base spare held n 34 [v]=some x) :
  ∃ (A:Option Addr)(c:Nat)(l:List Stp),v=.slice A l.length c∧l.length≤c∧c≤maxLen∧StpsAt w w.heap.size A l:=by
 rcases open_slice (P:=Tryz.prog) Tryz.underlying34 h with⟨h0,_⟩|⟨a,len,cap,m,n',D,Pl,hcs,hb,hl,hm,hmm,_,hi⟩
 ·obtain rfl:v=.slice none 0 0:=by simpa using h0
  exact⟨none,0,[],rfl,by simp,by simp,Rd.none_⟩
 ·obtain rfl:v=.slice (some a) len cap:=by simpa using hcs
  have hlm:len≤m:=by rw [hmm];split<;>omega
  obtain⟨l,hlen,hq⟩:=list_of (Q:=fun i (x:Stp)=>∀ j u,(stpCells x)[j]?=some u→w.cell? (a.add (i*5+j))=some u) len (fun i hil=>by
   obtain⟨cs',hc,ht'⟩:=hi i z52o
   rw [cellsStop'] at hc
   obtain⟨ys,n2,_,_,hlen,hys,hf⟩:=DataW.trod_struct Tryz.underlying100 ht'
   obtain⟨_,hcl,hat⟩:=World.cells?_some hc
   match cs',hcl with
   | [u0,u1,u2,u3,u4],_ =>
    have f0:DataW.trod enc Tryz.prog w base spare held n2 3 [u0]=ys[0]?:=by simpa [cellsInt] using hf 0 _ rfl
    have f1:DataW.trod enc Tryz.prog w base spare held n2 3 [u1]=ys[1]?:=by simpa [cellsInt] using hf 1 _ rfl
    have f2:DataW.trod enc Tryz.prog w base spare held n2 3 [u2]=ys[2]?:=by simpa [cellsInt] using hf 2 _ rfl
    have f3:DataW.trod enc Tryz.prog w base spare held n2 3 [u3]=ys[3]?:=by simpa [cellsInt] using hf 3 _ rfl
    have f4:DataW.trod enc Tryz.prog w base spare held n2 3 [u4]=ys[4]?:=by simpa [cellsInt] using hf 4 _ rfl
    have gy:∀ j,j<5→∃ y,ys[j]?=some y:=fun j hj=>⟨_,List.getElem?_eq_getElem (by rw [hys];exact hj)⟩
    obtain⟨y0,hy0⟩:=gy 0 z52o
    obtain⟨y1,hy1⟩:=gy 1 z52o
    obtain⟨y2,hy2⟩:=gy 2 z52o
    obtain⟨y3,hy3⟩:=gy 3 z52o
    obtain⟨y4,hy4⟩:=gy 4 z52o
    rw [hy0] at f0;rw [hy1] at f1;rw [hy2] at f2;rw [hy3] at f3;rw [hy4] at f4
    obtain⟨a0,e0,_,_⟩:=DataW.trod_int Tryz.underlying3 f0
    obtain⟨a1,e1,_,_⟩:=DataW.trod_int Tryz.underlying3 f1
    obtain⟨a2,e2,_,_⟩:=DataW.trod_int Tryz.underlying3 f2
    obtain⟨a3,e3,_,_⟩:=DataW.trod_int Tryz.underlying3 f3
    obtain⟨a4,e4,_,_⟩:=DataW.trod_int Tryz.underlying3 f4
    simp only [List.cons.injEq,and_true] at e0 e1 e2 e3 e4
    subst e0 e1 e2 e3 e4
    refine⟨(a0,a1,a2,a3,a4),fun j u hu=>?_⟩
    have hj:j<5:=(List.getElem?_eq_some_iff.1 hu).1
    have:=hat j hj
    rw [add_of_add] at this
    rw [this]
    exact hu)
  refine⟨some a,cap,l,by rw [hlen],by omega,hm,fun hpos=>⟨a,rfl,?_,?_⟩⟩
  ·have hpos':0<l.length:=by simpa using hpos
   have:=World.block_lt_of_cell? w _ (hq 0 hpos' 0 _ rfl)
   rwa [block_of_add] at this
  ·intro k r hr j u hu
   rw [List.getElem?_map] at hr
   cases hk:l[k]? with
   | none=>rw [hk] at hr;cases hr
   | some x =>
    rw [hk] at hr
    obtain rfl:stpCells x=r:=by simpa using hr
    obtain⟨hkl,hkx⟩:=List.getElem?_eq_some_iff.1 hk
    have q:=hq k hkl
    rw [hkx] at q
    exact q j u hu
end
end
section
open Go.RowKit Go.WideShapes Go.ChangeShapes Go.Joins Go.Deep
theorem rp_mem {α:Type} {w:World} {n:Nat} {l:List α} {e:α→List AV} {f:α→List Value} {A:Option Addr} {c B:Nat} (hr:Rd w B n A (l.map f)) (hc:l.length≤c)
  (hf:∀ x,(e x).length=n) (hef:∀ x (j:Nat) av,(e x)[j]?=some av→∃ u,av=.sc u∧(f x)[j]?=some u∧u.oneCell'=true):RP (fun q=>w.cell? q) (.ls n (l.map e)) (.slice A l.length c):=by
 have hcell:∀ ad,A=some ad→∀ (k:Nat) x,l[k]?=some x→∀ (j:Nat) u,(f x)[j]?=some u→w.cell? (ad.add (k*n+j))=some u:=fun ad had k x hk j u hu=>by
  have hl:0<(l.map f).length:=by have:=(List.getElem?_eq_some_iff.1 hk).1;simp;omega
  obtain ⟨ad',e',_,h2⟩:=hr hl
  rw [had] at e'
  cases e'
  exact h2 k (f x) (by rw [List.getElem?_map,hk];rfl) j u hu
 have key:∀ (i:Nat) r (j:Nat) av,(l.map e)[i]?=some r→r[j]?=some av→∃ x u,l[i]?=some x∧av=.sc u∧(f x)[j]?=some u∧u.oneCell'=true:=fun i r j av hr' hav=>by
  rw [List.getElem?_map] at hr'
  cases hx:l[i]? with
  | none=>simp [hx] at hr'
  | some x =>
   rw [hx] at hr'
   obtain rfl:e x=r:=by simpa using hr'
   obtain ⟨u,a,b,c⟩:=hef x j av hav
   exact ⟨x,u,rfl,a,b,c⟩
 have hlen:l.length=(l.map e).length:=by simp
 rw [hlen]
 refine .ls n (l.map e) A c (A.getD ⟨0,0,none⟩) (fun i j=>((l[i]?).bind fun x=>(f x)[j]?).getD undef) (by simpa using hc) (fun r hr'=>?_) (fun hp=>?_) (fun i r j av hr' hav=>?_) (fun i r j av hr' hav=>?_)
 ·obtain ⟨x,_,rfl⟩:=List.mem_map.1 hr';exact hf x
 ·obtain ⟨ad,e',_⟩:=hr (by simpa using hp)
  rw [e'];rfl
 ·obtain ⟨x,u,h1,h2,h3,h4⟩:=key i r j av hr' hav
  obtain ⟨ad,e',_⟩:=hr (by have:=(List.getElem?_eq_some_iff.1 h1).1;simp;omega)
  simp only [h1,Option.bind_some,h3,Option.getD_some]
  rw [e']
  exact ⟨hcell ad e' i x h1 j u h3,h4⟩
 ·obtain ⟨x,u,h1,h2,h3,h4⟩:=key i r j av hr' hav
  simp only [h1,Option.bind_some,h3,Option.getD_some,h2]
  exact .sc u
theorem eStp_of(x:Stp)(j:Nat)(av:AV)(h:(eStp x)[j]?=some av):∃ u,av=.sc u∧(stpCells x)[j]?=some u∧u.oneCell'=true:=by
 match j with
 | 0=>cases h;exact⟨_,rfl,rfl,rfl⟩
 | 1=>cases h;exact⟨_,rfl,rfl,rfl⟩
 | 2=>cases h;exact⟨_,rfl,rfl,rfl⟩
 | 3=>cases h;exact⟨_,rfl,rfl,rfl⟩
 | 4=>cases h;exact⟨_,rfl,rfl,rfl⟩
 | j+5=>simp [eStp]at h
section
variable {H:Type} {enc:TypeId×Value→H} {w:World} {base:Nat} {spare:Nat→Bool} {held:Bool}
theorem cap_of_trod {n k c:Nat} {T e:TypeId} {A:Option Addr} {x:DataW H×List MemPlace} (hu:Tryz.prog.underlying T=some (.slice e))(h:DataW.trod enc Tryz.prog w base spare held n T [.slice A k c]=some x):k≤c:=by
 rcases open_slice (P:=Tryz.prog) hu h with⟨h0,_⟩|⟨a,len,cap,m,n',D,Pl,hcs,hb,hl,hm,hmm,_,hi⟩
 ·simp at h0;omega
 ·simp at hcs;omega
theorem open_events_rp {n:Nat} {v:Value} {x:DataW H×List MemPlace} (h:DataW.trod enc Tryz.prog w base spare held n 26 [v]=some x) :
  ∃ evs:List Ev,RP (fun q=>w.cell? q) (.ls 6 (evs.map eEv)) v:=by
 rcases open_slice (P:=Tryz.prog) Tryz.underlying26 h with⟨h0,_⟩|⟨a,len,cap,m,n',D,Pl,hcs,hb,hl,hm,hmm,_,hi⟩
 ·obtain rfl:v=.slice none 0 0:=by simpa using h0
  exact ⟨[],.ls 6 [] none 0 ⟨0,0,none⟩ (fun _ _=>undef) (by simp) (by simp) (fun h=>absurd h (by simp)) (fun i r j av h=>by simp at h) (fun i r j av h=>by simp at h)⟩
 ·obtain rfl:v=.slice (some a) len cap:=by simpa using hcs
  have hlm:len≤m:=by rw [hmm];split<;>omega
  obtain ⟨l,hlen,hq⟩:=list_of (Q:=fun i (x:Ev×(Option Addr×Nat))=>(∀ j u,(evCells x.1 x.2)[j]?=some u→w.cell? (a.add (i*6+j))=some u)∧StpsAt w w.heap.size x.2.1 x.1.stops∧x.1.stops.length≤x.2.2) len (fun i hil=>by
   obtain ⟨cs',hc,ht'⟩:=hi i z52o
   rw [cellsEvent] at hc
   obtain ⟨ys,n2,_,_,hlen,hys,hf⟩:=DataW.trod_struct Tryz.underlying36 ht'
   obtain ⟨_,hcl,hat⟩:=World.cells?_some hc
   match cs',hcl with
   | [u0,u1,u2,u3,u4,u5],_ =>
    have f0:DataW.trod enc Tryz.prog w base spare held n2 4 [u0]=ys[0]?:=by simpa [cellsBool] using hf 0 _ rfl
    have f1:DataW.trod enc Tryz.prog w base spare held n2 33 [u1,u2,u3]=ys[1]?:=by simpa [cellsSign'] using hf 1 _ rfl
    have f2:DataW.trod enc Tryz.prog w base spare held n2 4 [u4]=ys[2]?:=by simpa [cellsBool] using hf 2 _ rfl
    have f3:DataW.trod enc Tryz.prog w base spare held n2 34 [u5]=ys[3]?:=by simpa [cellsStops] using hf 3 _ rfl
    have gy:∀ j,j<4→∃ y,ys[j]?=some y:=fun j hj=>⟨_,List.getElem?_eq_getElem (by rw [hys];exact hj)⟩
    obtain ⟨y0,hy0⟩:=gy 0 z52o
    obtain ⟨y1,hy1⟩:=gy 1 z52o
    obtain ⟨y2,hy2⟩:=gy 2 z52o
    obtain ⟨y3,hy3⟩:=gy 3 z52o
    rw [hy0] at f0;rw [hy1] at f1;rw [hy2] at f2;rw [hy3] at f3
    obtain ⟨zs,n3,_,_,_,hzs,hg⟩:=DataW.trod_struct Tryz.underlying33 f1
    have s0:DataW.trod enc Tryz.prog w base spare held n3 3 [u1]=zs[0]?:=by simpa [cellsInt] using hg 0 _ rfl
    have s1:DataW.trod enc Tryz.prog w base spare held n3 4 [u2]=zs[1]?:=by simpa [cellsBool] using hg 1 _ rfl
    have s2:DataW.trod enc Tryz.prog w base spare held n3 4 [u3]=zs[2]?:=by simpa [cellsBool] using hg 2 _ rfl
    have gz:∀ j,j<3→∃ y,zs[j]?=some y:=fun j hj=>⟨_,List.getElem?_eq_getElem (by rw [hzs];exact hj)⟩
    obtain ⟨z0,hz0⟩:=gz 0 z52o
    obtain ⟨z1,hz1⟩:=gz 1 z52o
    obtain ⟨z2,hz2⟩:=gz 2 z52o
    rw [hz0] at s0;rw [hz1] at s1;rw [hz2] at s2
    obtain ⟨b0,e0,_⟩:=DataW.trod_bool Tryz.underlying4 f0
    obtain ⟨b1,e1,_,_⟩:=DataW.trod_int Tryz.underlying3 s0
    obtain ⟨b2,e2,_⟩:=DataW.trod_bool Tryz.underlying4 s1
    obtain ⟨b3,e3,_⟩:=DataW.trod_bool Tryz.underlying4 s2
    obtain ⟨b4,e4,_⟩:=DataW.trod_bool Tryz.underlying4 f2
    obtain ⟨S,c,l,e5,hlc,_,hS⟩:=open_stops f3
    simp only [List.cons.injEq,and_true] at e0 e1 e2 e3 e4
    subst e0 e1 e2 e3 e4 e5
    refine ⟨(⟨b0,b1,b2,b3,b4,l⟩,(S,c)),fun j u hu=>?_,hS,hlc⟩
    have hj:j<6:=(List.getElem?_eq_some_iff.1 hu).1
    have:=hat j hj
    rw [add_of_add] at this
    rw [this]
    exact hu)
  refine ⟨l.map (·.1),?_⟩
  have hll:len=((l.map (·.1)).map eEv).length:=by simp [hlen]
  have key:∀ (i:Nat) r (j:Nat) av,((l.map (·.1)).map eEv)[i]?=some r→r[j]?=some av→∃ x u,l[i]?=some x∧(evCells x.1 x.2)[j]?=some u∧w.cell? (a.add (i*6+j))=some u∧u.oneCell'=true∧RP (fun q=>w.cell? q) av u:=fun i r j av hr hav=>by
   rw [List.map_map,List.getElem?_map] at hr
   cases hx:l[i]? with
   | none=>simp [hx] at hr
   | some x =>
    rw [hx] at hr
    obtain rfl:eEv x.1=r:=by simpa using hr
    obtain ⟨hkl,hkx⟩:=List.getElem?_eq_some_iff.1 hx
    have q:=hq i hkl
    rw [hkx] at q
    have fin:∀ u,(evCells x.1 x.2)[j]?=some u→u.oneCell'=true→RP (fun q=>w.cell? q) av u→∃ x' u,some x=some x'∧(evCells x'.1 x'.2)[j]?=some u∧w.cell? (a.add (i*6+j))=some u∧u.oneCell'=true∧RP (fun q=>w.cell? q) av u:=fun u h1 h2 h3=>⟨x,u,rfl,h1,q.1 j u h1,h2,h3⟩
    match j with
    | 0=>cases hav;exact fin _ rfl rfl (.sc _)
    | 1=>cases hav;exact fin _ rfl rfl (.sc _)
    | 2=>cases hav;exact fin _ rfl rfl (.sc _)
    | 3=>cases hav;exact fin _ rfl rfl (.sc _)
    | 4=>cases hav;exact fin _ rfl rfl (.sc _)
    | 5=>cases hav;exact fin _ rfl rfl (rp_mem q.2.1 q.2.2 (fun _=>rfl) eStp_of)
    | j+6=>simp [eEv] at hav
  rw [hll]
  refine .ls 6 _ (some a) cap a (fun i j=>((l[i]?).bind fun x=>(evCells x.1 x.2)[j]?).getD undef) (by rw [← hll];exact hl) (fun r hr=>?_) (fun _=>rfl) (fun i r j av hr hav=>?_) (fun i r j av hr hav=>?_)
  ·obtain ⟨x,_,rfl⟩:=List.mem_map.1 hr;rfl
  ·obtain ⟨x,u,h1,h2,h3,h4,_⟩:=key i r j av hr hav
   simp only [h1,Option.bind_some,h2,Option.getD_some]
   exact ⟨h3,h4⟩
  ·obtain ⟨x,u,h1,h2,_,_,h5⟩:=key i r j av hr hav
   simp only [h1,Option.bind_some,h2,Option.getD_some]
   exact h5
theorem open_piece_rp {r:Reach} {b0:Nat} {v:Value} {d:DataW H} {p:List MemPlace} (hv:Value.okWide Tryz.prog w r b0 28 v) (h:DataW.Trod enc Tryz.prog w base spare held 28 v d p) :
  ∃ pc:Pce,RP (fun q=>w.cell? q) (ePce pc) v:=by
 obtain ⟨cs,rfl,hsz⟩:=okWide_struct Tryz.underlying28 hv
 obtain ⟨l⟩:=cs
 match l,hsz.trans cellsPiece with
 | [c0,c1,c2],_ =>
  obtain ⟨fuel,hf⟩:=h
  obtain ⟨ys,n2,_,_,_,hys,hg⟩:=DataW.trod_struct Tryz.underlying28 (by simpa [Value.cells] using hf:DataW.trod enc Tryz.prog w base spare held fuel 28 [c0,c1,c2]=some (d,p))
  have f0:DataW.trod enc Tryz.prog w base spare held n2 25 [c0,c1]=ys[0]?:=by simpa [cellsInstrument] using hg 0 _ rfl
  have f1:DataW.trod enc Tryz.prog w base spare held n2 26 [c2]=ys[1]?:=by simpa [cellsEvents] using hg 1 _ rfl
  obtain ⟨y0,hy0⟩:∃ y,ys[0]?=some y:=⟨_,List.getElem?_eq_getElem (by rw [hys];decide)⟩
  obtain ⟨y1,hy1⟩:∃ y,ys[1]?=some y:=⟨_,List.getElem?_eq_getElem (by rw [hys];decide)⟩
  rw [hy0] at f0;rw [hy1] at f1
  obtain ⟨zs,n3,_,_,_,hzs,hz⟩:=DataW.trod_struct Tryz.underlying25 f0
  have g0:DataW.trod enc Tryz.prog w base spare held n3 22 [c0]=zs[0]?:=by simpa [cellsCourses] using hz 0 _ rfl
  have g1:DataW.trod enc Tryz.prog w base spare held n3 23 [c1]=zs[1]?:=by simpa [cellsInts] using hz 1 _ rfl
  obtain ⟨z0,hz0⟩:∃ y,zs[0]?=some y:=⟨_,List.getElem?_eq_getElem (by rw [hzs];decide)⟩
  obtain ⟨z1,hz1⟩:∃ y,zs[1]?=some y:=⟨_,List.getElem?_eq_getElem (by rw [hzs];decide)⟩
  rw [hz0] at g0;rw [hz1] at g1
  obtain ⟨A1,A2,k1,k2,cs,st,rfl,rfl,l1,l2,hI⟩:=open_ins f0
  obtain ⟨evs,hE⟩:=open_events_rp f1
  have hc1:=cap_of_trod Tryz.underlying22 g0
  have hc2:=cap_of_trod Tryz.underlying23 g1
  refine ⟨⟨cs,st,evs⟩,.ag _ _ rfl fun i av u a b=>?_⟩
  match i with
  | 0=>cases a;cases b;exact rp_mem hI.1 hc1 (fun _=>rfl) eCrs_of
  | 1=>cases a;cases b;exact rp_mem hI.2 hc2 (fun _=>rfl) eInt_of
  | 2=>cases a;cases b;exact hE
  | i+3=>simp at a
end
end
section
open Go.RowKit
def ixE(b:List En)(n:Int):Int:=if bkE b≠0 then bkE b else if n<1∨16<n then 1 else 0
def rwE(i:Nat)(p:Pce)(n:Int):Rw:=⟨i,(incL p n).take 16,by rw [List.length_take];omega⟩
def rwK(b:List En)(n:Int)(k:Nat):List Rw:=(b.take k).mapIdx fun i e=>rwE i e.p n
def ixL (b:List En) (n:Int):List Rw:=if ixE b n=0 then srt cmR (fun r:Rw=>r.1) (rwK b n b.length)else []
theorem incL_16 {p:Pce} {n:Int} (h:¬ (n < 1∨16 < n)):(incL p n).take 16=incL p n:=by
 refine List.take_of_length_le ?_
 unfold incL
 split
 ·unfold incR
  rw [List.length_take];omega
 ·simp
theorem rwK_len {b:List En} {n:Int} {k:Nat} (h:k≤b.length):(rwK b n k).length=k:=by unfold rwK;rw [List.length_mapIdx,List.length_take];omega
theorem rwK_s {b:List En} {n:Int} {k:Nat} (h:k<b.length):rwK b n (k+1)=rwK b n k++[rwE k b[k].p n]:=by
 unfold rwK
 rw [List.take_succ_eq_append_getElem h,List.mapIdx_append]
 congr 1
 simp [List.length_take]
 congr 1
 omega
theorem rwK_at {b:List En} {n:Int} {k i:Nat} (h:i<(rwK b n k).length):((rwK b n k)[i]).1=(i:Int):=by
 simp only [rwK,List.getElem_mapIdx];rfl
theorem rwK_asc (b:List En) (n:Int) (k:Nat):Asc (fun r:Rw=>r.1) (rwK b n k):=by
 rw [Asc,List.pairwise_iff_getElem]
 intro i j hi hj hij
 rw [rwK_at hi,rwK_at hj];omega
theorem ix_1 {b:List En} {n:Int} (h:bkE b≠0):ixE b n=bkE b∧ixL b n=[]:=by
 have e:ixE b n=bkE b:=if_pos h
 exact⟨e,if_neg (by rw [e];exact h)⟩
theorem ix_2 {b:List En} {n:Int} (h:bkE b=0)(h2:n<1∨16<n):ixE b n=1∧ixL b n=[]:=by
 have e:ixE b n=1:=by unfold ixE;rw [if_neg (fun x=>x h),if_pos h2]
 exact⟨e,if_neg (by rw [e];decide)⟩
theorem ix_3 {b:List En} {n:Int} (h:bkE b=0) (h2:¬ (n<1∨16<n)):ixE b n=0∧ixL b n=srt cmR (fun r:Rw=>r.1) (rwK b n b.length):=by
 have e:ixE b n=0:=by unfold ixE;rw [if_neg (fun x=>x h),if_neg h2]
 exact ⟨e,if_pos e⟩
theorem ix1_FS (a b:Rw):Ctr Tryz.prog 94 [.ag (eRw a),.ag (eRw b)] (.sc (.int .i64 (cmR a b))):=by
 have hF:=cmpQ_FS a.2 b.2 a.3 b.3
 refine Ctr.intro Tryz.func94 rfl Tryz.ntmps94 (Nat.le_of_ble_eq_true rfl) (bd_all rfl) fun w0 F0=>?_;dsimp only [St.init,number,Nat.reduceAdd]
 repeat refine W.go rfl ?_
 refine (?_:WL _ _ _ _ _ _)
 refine WL.vl rfl (WV.call rfl (callF Tryz.func95 rfl rfl) rfl rfl hF) ?_
 repeat refine WL.ev rfl ?_
 refine (?_:W _ _ _ _ _)
 exact W.ret (fin1 rfl rfl rfl rfl)
theorem srtr_G {f:FuncId} {cm:Rw→Rw→Int} {en:Rw→Int} (hcm:CmOk cm) (hcf:∀ vs w,(callFunc f vs).run Tryz.prog w=.ok (.enter f vs) w) (hC:∀ a b,Ctr Tryz.prog f [.ag (eRw a),.ag (eRw b)] (.sc (.int .i64 (cm a b)))) (l:List Rw) (hn:l.length≤100) (hl:Asc en l) :
  Cto truB 0 Tryz.prog 96 [.ag [.sc (.func (.func f) #[] #[])],.sl 0] [(0,.row 83 2 (l.map eRw))] 1 (.tu []) [(0,.row 83 2 ((srt cm en l).map eRw))] 1:=by
 refine Cto.intro truS Tryz.func96 rfl Tryz.ntmps96 (Nat.le_of_ble_eq_true rfl) rfl fun w0 F0 fp pg hB=>?_
 dsimp only [number,Nat.reduceAdd]
 have hi:=sortS_G hcm hcf hC l hn hl
 repeat (first|refine W.gob rfl ?_|refine WL.nil ?_|refine WL.e1 rfl ?_)
 refine (?_:WL _ _ _ _ _ _)
 refine WL.cto (truH _) [0] rfl rfl (callF Tryz.func155 rfl rfl) hi rfl rfl rfl ⟨⟨rfl,rfl,rfl⟩,trivial⟩ rfl rfl rfl rfl ?_
 repeat refine WL.nil ?_
 refine finTr (σ':=⟨[],[(0,.row 83 2 ((srt cm en l).map eRw))],1⟩) (zqt id) ?_
 exact finMu rfl rfl rfl rfl rfl
theorem pIndexO_FS (b:List En) (hB:BkOk b) (n:Int) (h0:bkE b=0) (hn:¬ (n < 1∨16 < n)):Cto truB 0 Tryz.prog 42 [eBk b,.sc (.int .i64 n)] [] 0 (.tu [.sl 0,.sc (.int .i64 0)]) [(0,.row 83 2 ((srt cmR (fun r:Rw=>r.1) (rwK b n b.length)).map eRw))] 1:=by
 have hBn:=hB.n
 have hC:=pBkCheck_FS b hB
 have hI:=chkInc_FS n
 have hBp:=hB.p
 have hEn:=(bkE_zero h0).2
 rw [if_neg hn] at hI
 rw [h0] at hC
 have hBl:(b.map eEn).length=b.length:=List.length_map _
 have hBa:∀ k (h:k < b.length),(b.map eEn)[((k:Nat):Int).toNat]?=some (eEn b[k]):=fun k h=>map_at h
 obtain ⟨BB,hBB⟩:∃ z,b.map eEn=z:=⟨_,rfl⟩
 have hC:Ctr Tryz.prog 56 [.ag [.ls 5 (b.map eEn)]] (.sc (.int .i64 0)):=hC
 show Cto truB 0 Tryz.prog 42 [.ag [.ls 5 (b.map eEn)],.sc (.int .i64 n)] [] 0 _ _ 1
 rw [hBB] at hBl hBa hC ⊢
 refine Cto.intro truS Tryz.func42 rfl Tryz.ntmps42 (Nat.le_of_ble_eq_true rfl) rfl fun w0 F0 fp pg hB'=>?_
 dsimp only [number,Nat.reduceAdd]
 repeat refine W.go rfl ?_
 refine (?_:WL _ _ _ _ _ _)
 refine WL.vl rfl (WV.call rfl (callF Tryz.func56 rfl rfl) rfl rfl hC) ?_
 repeat (first|refine W.gob rfl ?_|refine WL.nil ?_|refine WL.nf rfl rfl rfl z52o ?_|refine WL.e1 rfl ?_|refine W.condF rfl ?_)
 refine (?_:WL _ _ _ _ _ _)
 refine WL.vl rfl (WV.call rfl (callF Tryz.func93 rfl rfl) rfl rfl hI) ?_
 repeat (first|refine W.gob rfl ?_|refine WL.nil ?_|refine WL.nf rfl rfl rfl z52o ?_|refine WL.e1 rfl ?_|refine WL.len rfl rfl zql ?_|refine W.condF rfl ?_)
 refine (?_:W _ _ _ _ _)
 first|refine W.tr (Tr.nil (t:=8) 83 2 rfl rfl) ?_|refine WL.tr (Tr.nil (t:=8) 83 2 rfl rfl) ?_
 dsimp only [St.put,St.new,St.upd,Nat.reduceAdd]
 refine (?_:W _ _ _ _ _)
 refine W.loop (fun k:Nat=>k≤b.length) (fun k=>⟨[(1,.sc (.int .i64 n)),(2,.pt 0 0 0),(4,.sc (.slice none 0 0)),(8,.sl 1),(24,.ls 5 BB),(25,.sc (.int .i64 BB.length)),(26,.sc (.int .i64 k))],[(0,.box 48 [.ls 5 BB]),(1,.row 83 2 ((rwK b n k).map eRw))],2⟩) (fun k=>b.length - k) 0 (by omega) (zqu (fun q=>q) (by repeat (first|exact trivial|refine ⟨⟨?_,?_,?_⟩,?_⟩|rfl|exact congrArg (fun q=>some (AO.row _ _ q)) rfl)) rfl) fun k hk=>?_
 have hkl:=rwK_len (b:=b) (n:=n) hk
 have hkm:((rwK b n k).map eRw).length=(rwK b n k).length:=List.length_map _
 by_cases hlt:k < b.length
 ·have ha:=hBa k hlt
  obtain ⟨_,hp,_⟩:=enE_zero (hEn k hlt)
  have hF:=pIncipit_FS b[k].p (hBp k hlt) n
  have hE0:incE b[k].p n=0:=by unfold incE;rw [if_pos hp,if_neg hn]
  have hmap:(rwK b n k).map eRw++[[.sc (.int .i64 (k:Int)),.ls 1 ((incL b[k].p n).map eInt)]]=(rwK b n (k+1)).map eRw:=by
   have hr:eRw (rwE k b[k].p n)=[.sc (.int .i64 (k:Int)),.ls 1 ((incL b[k].p n).map eInt)]:=by
    show ([AV.sc (.int .i64 (k:Int)),AV.ls 1 (((incL b[k].p n).take 16).map eInt)]:List AV)=_
    rw [incL_16 hn]
   rw [rwK_s hlt,List.map_append,← hr];rfl
  rw [hE0] at hF
  obtain ⟨x,hx⟩:∃ z,b[k]=z:=⟨_,rfl⟩
  rw [hx] at ha hF hmap
  obtain ⟨IL,hIL⟩:∃ z,incL x.p n=z:=⟨_,rfl⟩
  rw [hIL] at hF hmap
  clear hBa hIL hBp hEn
  repeat (first|refine W.gob rfl ?_|refine WL.nil ?_|refine WL.bt rfl rfl rfl z52o ?_|refine WL.e1 rfl ?_|refine W.condT rfl ?_)
  refine (?_:WL _ _ _ _ _ _)
  refine WL.idx rfl rfl z52o ha ?_
  repeat (first|refine W.gob rfl ?_|refine WL.nil ?_|refine WL.e1 rfl ?_)
  refine (?_:WL _ _ _ _ _ _)
  refine WL.vl rfl (WV.call rfl (callF Tryz.func48 rfl rfl) rfl rfl hF) ?_
  repeat (first|refine W.gob rfl ?_|refine WL.nil ?_|refine WL.nf rfl rfl rfl (by omega) ?_|refine WL.e1 rfl ?_|refine WL.ar rfl rfl (by unfold I64;omega) ?_|refine WL.app rfl rfl rfl (by first|omega|(simp;done)|(simp;omega)) ?_|refine W.condF rfl ?_)
  refine ⟨k+1,by omega,by omega,?_⟩
  exact (zqu (fun q=>bif Nat.beq q 1 then 4 else q) (by repeat (first|exact trivial|refine ⟨⟨?_,?_,?_⟩,?_⟩|rfl|exact congrArg (fun q=>some (AO.row _ _ q)) hmap)) rfl)
 obtain rfl:k=b.length:=by omega
 have hs:=srtr_G cmR_ok (callF Tryz.func94 rfl rfl) ix1_FS (rwK b n b.length) (by omega) (rwK_asc b n b.length)
 clear hBa hBp hEn
 repeat (first|refine W.gob rfl ?_|refine WL.nil ?_|refine WL.bf rfl rfl rfl z52o ?_|refine WL.e1 rfl ?_|refine W.condF rfl ?_)
 refine (?_:WL _ _ _ _ _ _)
 refine WL.cto (truH _) [1] rfl rfl (callF Tryz.func96 rfl rfl) hs rfl rfl rfl ⟨⟨rfl,rfl,rfl⟩,trivial⟩ rfl rfl rfl rfl ?_
 repeat (first|refine W.gob rfl ?_|refine WL.nil ?_|refine WL.e1 rfl ?_)
 refine (?_:W _ _ _ _ _)
 refine W.tr (σ':=⟨[(4,.sl 0),(5,.sc (.int .i64 0))],[(0,.row 83 2 ((srt cmR (fun r:Rw=>r.1) (rwK b n b.length)).map eRw))],1⟩) (zqu (fun q=>bif Nat.beq q 0 then 1 else q) (by repeat (first|exact trivial|refine ⟨⟨?_,?_,?_⟩,?_⟩|rfl|exact congrArg (fun q=>some (AO.row _ _ q)) (by first|rfl|(simp;done)|(simp [eInt];done)|(simp [eLk];done)))) rfl) ?_
 exact W.ret (finM rfl rfl rfl rfl rfl)
theorem pIndex_no (b:List En) (hB:BkOk b) (n:Int) (h:ixE b n≠0):Ctr Tryz.prog 42 [eBk b,.sc (.int .i64 n)] (.tu [.ls 2 [],.sc (.int .i64 (ixE b n))]):=by
 have hC:=pBkCheck_FS b hB
 have hI:=chkInc_FS n
 by_cases h0:bkE b=0
 rotate_left
 ·rw [(ix_1 h0).1]
  obtain ⟨E,hE⟩:∃ E,bkE b=E:=⟨_,rfl⟩
  rw [hE] at h0 hC ⊢
  refine Ctr.intro Tryz.func42 rfl Tryz.ntmps42 (Nat.le_of_ble_eq_true rfl) (bd_all rfl) fun w0 F0=>?_;dsimp only [St.init,number,Nat.reduceAdd]
  repeat refine W.go rfl ?_
  refine (?_:WL _ _ _ _ _ _)
  refine WL.vl rfl (WV.call rfl (callF Tryz.func56 rfl rfl) rfl rfl hC) ?_
  repeat (first|refine W.gob rfl ?_|refine WL.nil ?_|refine WL.nt rfl rfl rfl z52o ?_|refine WL.e1 rfl ?_|refine W.condT rfl ?_)
  refine (?_:W _ _ _ _ _)
  refine W.tr (Tr.nilR (t:=4) 2 rfl) ?_
  exact W.ret (finN rfl rfl rfl rfl)
 ·have hn:n < 1∨16 < n:=Classical.byContradiction fun hn=>h (ix_3 h0 hn).1
  rw [(ix_2 h0 hn).1]
  rw [h0] at hC
  rw [if_pos hn] at hI
  refine Ctr.intro Tryz.func42 rfl Tryz.ntmps42 (Nat.le_of_ble_eq_true rfl) (bd_all rfl) fun w0 F0=>?_;dsimp only [St.init,number,Nat.reduceAdd]
  repeat refine W.go rfl ?_
  refine (?_:WL _ _ _ _ _ _)
  refine WL.vl rfl (WV.call rfl (callF Tryz.func56 rfl rfl) rfl rfl hC) ?_
  repeat (first|refine W.gob rfl ?_|refine WL.nil ?_|refine WL.nf rfl rfl rfl z52o ?_|refine WL.e1 rfl ?_|refine W.condF rfl ?_)
  refine (?_:WL _ _ _ _ _ _)
  refine WL.vl rfl (WV.call rfl (callF Tryz.func93 rfl rfl) rfl rfl hI) ?_
  repeat (first|refine W.gob rfl ?_|refine WL.nil ?_|refine WL.nt rfl rfl rfl z52o ?_|refine WL.e1 rfl ?_|refine W.condT rfl ?_)
  refine (?_:W _ _ _ _ _)
  refine W.tr (Tr.nilR (t:=4) 2 rfl) ?_
  exact W.ret (finN rfl rfl rfl rfl)
end
section
def rwL (b:List En)(n:Int)(k:Nat):List Rw:=(rwK b n k).filter (lng n)
def conL (b:List En)(n:Int):List (List Int):=if ixE b n=0 then cnc (rwL b n b.length)else []
end
section
def twB(p:Pce)(d:Int):List En:=[⟨[111,110,101],1,p⟩,⟨[116,119,111],1,trP p d⟩]
theorem trP_ok {p:Pce} (hO:PcOk p)(d:Int):PcOk (trP p d):=⟨by show (trC p.cs d).length≤_;rw [trC_len];exact hO.n1,hO.n2,hO.n3,hO.n4⟩
theorem tw_ok {p:Pce} (hO:PcOk p)(d:Int):BkOk (twB p d):=by
 refine⟨by show 2≤70;omega,fun k hk=>?_,fun k hk=>?_⟩
 ·match k,hk with
  | 0,_=>exact hO
  | 1,_=>exact trP_ok hO d
 ·match k,hk with
  | 0,_=>show 3≤1000;omega
  | 1,_=>show 3≤1000;omega
theorem tw_en {b:List En} {i:Nat} {e:En} (h1:ttlOk e.t=true)(h2:¬ ttlN b e.t<i)(h3:e.s=1)(h4:pceE e.p=0):enE b i e=0∨enE b i e=31:=by
 unfold enE
 rw [if_neg (fun x=>x.elim (fun y=>by rw [h1] at y;cases y) h2),if_neg (fun x=>x (by omega)),if_neg (fun x=>x h4)]
 split
 ·exact .inl rfl
 ·exact .inr rfl
theorem tw_e {p:Pce} {d n:Int} (h0:pceE p=0) (h1:pceE (trP p d)=0) (hn:¬ (n < 1∨16 < n)):ixE (twB p d) n=0∨ixE (twB p d) n=31:=by
 have a0:=tw_en (b:=twB p d) (i:=0) (e:=⟨[111,110,101],1,p⟩) (show ttlOk [111,110,101]=true by decide) z52o rfl h0
 have a1:=tw_en (b:=twB p d) (i:=1) (e:=⟨[116,119,111],1,trP p d⟩) (show ttlOk [116,119,111]=true by decide) (by show ¬ (ttlN (twB p d) [116,119,111]) < 1;rw [show ttlN (twB p d) [116,119,111]=1 from rfl];omega) rfl h1
 have hb:bkE (twB p d)=0∨bkE (twB p d)=31:=by
  have hl:¬ 64 < (twB p d).length:=by show ¬ 64 < 2;omega
  rcases a0 with a0|a0
  ·rcases a1 with a1|a1
   ·refine .inl (bkE_ok hl fun k hk=>?_)
    match k,hk with
    | 0,_=>exact a0
    | 1,_=>exact a1
   ·refine .inr ?_
    have:=bkE_at (b:=twB p d) hl (k:=1) (by show 1 < 2;omega) (fun j hj=>by
     obtain rfl:j=0:=by omega
     exact a0) (by show enE (twB p d) 1 ⟨[116,119,111],1,trP p d⟩≠0;rw [a1];decide)
    exact this.trans a1
  ·refine .inr ?_
   have:=bkE_at (b:=twB p d) hl (k:=0) (by show 0 < 2;omega) (fun j hj=>absurd hj (by omega)) (by show enE (twB p d) 0 ⟨[111,110,101],1,p⟩≠0;rw [a0];decide)
   exact this.trans a0
 by_cases hz:bkE (twB p d)=0
 ·exact .inl (ix_3 hz hn).1
 ·rw [(ix_1 (n:=n) hz).1]
  exact hb
theorem cnc_two {r s:Rw} (h:r.2=s.2):cnc [r,s]=[[r.1,s.1]]:=by
 simp [cnc,cnG,fsT,fsS,grp,two,ens,alk,h]
theorem tw_con {p:Pce} {d n:Int} (h0:pceE p=0)(h1:pceE (trP p d)=0)(hn:¬ (n<1∨16<n))(hz:ixE (twB p d) n=0):conL (twB p d) n=if ((incL p n).length:Int)<n then [] else [[0,1]]:=by
 have hI:=incL_tr h0 h1 n
 have e0:(rwE 0 p n).2=incL p n:=incL_16 hn
 have e1:(rwE 1 (trP p d) n).2=incL p n:=(incL_16 hn).trans hI
 have hK:rwK (twB p d) n (twB p d).length=[rwE 0 p n,rwE 1 (trP p d) n]:=rfl
 have hl:conL (twB p d) n=cnc (([rwE 0 p n,rwE 1 (trP p d) n]).filter (lng n)):=by
  unfold conL
  rw [if_pos hz]
  unfold rwL
  rw [hK]
 rw [hl]
 by_cases hc:((incL p n).length:Int)<n
 ·rw [if_pos hc,List.filter_cons_of_neg (by simp only [lng,e0,decide_eq_true_eq];omega),List.filter_cons_of_neg (by simp only [lng,e1,decide_eq_true_eq];omega)]
  rfl
 ·rw [if_neg hc,List.filter_cons_of_pos (by simp only [lng,e0,decide_eq_true_eq];omega),List.filter_cons_of_pos (by simp only [lng,e1,decide_eq_true_eq];omega),List.filter_nil,cnc_two (e0.trans e1.symm)]
  rfl
end
end Go.Proofs.YtgelfflighgajaaGreatDoor
