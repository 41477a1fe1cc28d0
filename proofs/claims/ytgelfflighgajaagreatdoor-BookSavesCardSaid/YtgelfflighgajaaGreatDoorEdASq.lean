/- book.Edition: what it calls. -/
import Derived.Test.YtgelfflighgajaaGreatDoorMelSq
import Derived.Test.YtgelfflighgajaaGreatDoorStfSq
import Derived.Test.YtgelfflighgajaaGreatDoorBkPSq
set_option linter.unusedVariables false
set_option linter.unusedSimpArgs false
namespace Go.Proofs.YtgelfflighgajaaGreatDoor
open Go.RowKit Go.WideShapes Go.ChangeShapes Go.Joins Go.Deep
set_option maxRecDepth 100000
theorem rp_mem {α:Type} {w:World} {n:Nat} {l:List α} {e:α→List AV} {f:α→List Value} {A:Option Addr} {c B:Nat} (hr:Rd w B n A (l.map f)) (hc:l.length≤c)
  (hf:∀ x,(e x).length=n) (hef:∀ x (j:Nat) av,(e x)[j]?=some av→∃ u,av=.sc u∧(f x)[j]?=some u∧u.oneCell'=true):RP (fun q=>w.cell? q) (.ls n (l.map e)) (.slice A l.length c):=by
 have hcell:∀ ad,A=some ad→∀ (k:Nat) x,l[k]?=some x→∀ (j:Nat) u,(f x)[j]?=some u→w.cell? (ad.add (k*n+j))=some u:=fun ad had k x hk j u hu=>by
  have hl:0<(l.map f).length:=by have:=(List.getElem?_eq_some_iff.1 hk).1;simp;omega
  obtain ⟨ad',e',_,h2⟩:=hr hl
  rw [had] at e'
  cases e'
  exact h2 k (f x) (by rw [List.getElem?_map,hk];rfl) j u hu
 have key:∀ (i:Nat) r (j:Nat) av,(l.map e)[i]?=some r→r[j]?=some av→∃ x u,l[i]?=some x∧av=.sc u∧(f x)[j]?=some u∧u.oneCell'=true:=fun i r j av hr' hav=>by
  rw [List.getElem?_map] at hr'
  cases hx:l[i]? with
  | none=>simp [hx] at hr'
  | some x =>
   rw [hx] at hr'
   obtain rfl:e x=r:=by simpa using hr'
   obtain ⟨u,a,b,c⟩:=hef x j av hav
   exact ⟨x,u,rfl,a,b,c⟩
 have hlen:l.length=(l.map e).length:=by simp
 rw [hlen]
 refine .ls n (l.map e) A c (A.getD ⟨0,0,none⟩) (fun i j=>((l[i]?).bind fun x=>(f x)[j]?).getD undef) (by simpa using hc) (fun r hr'=>?_) (fun hp=>?_) (fun i r j av hr' hav=>?_) (fun i r j av hr' hav=>?_)
 ·obtain ⟨x,_,rfl⟩:=List.mem_map.1 hr';exact hf x
 ·obtain ⟨ad,e',_⟩:=hr (by simpa using hp)
  rw [e'];rfl
 ·obtain ⟨x,u,h1,h2,h3,h4⟩:=key i r j av hr' hav
  obtain ⟨ad,e',_⟩:=hr (by have:=(List.getElem?_eq_some_iff.1 h1).1;simp;omega)
  simp only [h1,Option.bind_some,h3,Option.getD_some]
  rw [e']
  exact ⟨hcell ad e' i x h1 j u h3,h4⟩
 ·obtain ⟨x,u,h1,h2,h3,h4⟩:=key i r j av hr' hav
  simp only [h1,Option.bind_some,h3,Option.getD_some,h2]
  exact .sc u
theorem eStp_of (x:Stp) (j:Nat) (av:AV) (h:(eStp x)[j]?=some av):∃ u,av=.sc u∧(stpCells x)[j]?=some u∧u.oneCell'=true:=by
 match j with
 | 0=>cases h;exact ⟨_,rfl,rfl,rfl⟩
 | 1=>cases h;exact ⟨_,rfl,rfl,rfl⟩
 | 2=>cases h;exact ⟨_,rfl,rfl,rfl⟩
 | 3=>cases h;exact ⟨_,rfl,rfl,rfl⟩
 | 4=>cases h;exact ⟨_,rfl,rfl,rfl⟩
 | j+5=>simp [eStp] at h
section
variable {H:Type} {enc:TypeId×Value→H} {w:World} {base:Nat} {spare:Nat→Bool} {held:Bool}
theorem cap_of_trod {n k c:Nat} {T e:TypeId} {A:Option Addr} {x:DataW H×List MemPlace} (hu:Tryz.prog.underlying T=some (.slice e)) (h:DataW.trod enc Tryz.prog w base spare held n T [.slice A k c]=some x):k≤c:=by
 rcases open_slice (P:=Tryz.prog) hu h with⟨h0,_⟩|⟨a,len,cap,m,n',D,Pl,hcs,hb,hl,hm,hmm,_,hi⟩
 ·simp at h0;omega
 ·simp at hcs;omega
theorem open_events_rp {n:Nat} {v:Value} {x:DataW H×List MemPlace} (h:DataW.trod enc Tryz.prog w base spare held n 26 [v]=some x) :
  ∃ evs:List Ev,RP (fun q=>w.cell? q) (.ls 6 (evs.map eEv)) v:=by
 rcases open_slice (P:=Tryz.prog) Tryz.underlying26 h with⟨h0,_⟩|⟨a,len,cap,m,n',D,Pl,hcs,hb,hl,hm,hmm,_,hi⟩
 ·obtain rfl:v=.slice none 0 0:=by simpa using h0
  exact ⟨[],.ls 6 [] none 0 ⟨0,0,none⟩ (fun _ _=>undef) (by simp) (by simp) (fun h=>absurd h (by simp)) (fun i r j av h=>by simp at h) (fun i r j av h=>by simp at h)⟩
 ·obtain rfl:v=.slice (some a) len cap:=by simpa using hcs
  have hlm:len≤m:=by rw [hmm];split<;>omega
  obtain ⟨l,hlen,hq⟩:=list_of (Q:=fun i (x:Ev×(Option Addr×Nat))=>(∀ j u,(evCells x.1 x.2)[j]?=some u→w.cell? (a.add (i*6+j))=some u)∧StpsAt w w.heap.size x.2.1 x.1.stops∧x.1.stops.length≤x.2.2) len (fun i hil=>by
   obtain ⟨cs',hc,ht'⟩:=hi i (by omega)
   rw [cellsEvent] at hc
   obtain ⟨ys,n2,_,_,hlen,hys,hf⟩:=DataW.trod_struct Tryz.underlying36 ht'
   obtain ⟨_,hcl,hat⟩:=World.cells?_some hc
   match cs',hcl with
   | [u0,u1,u2,u3,u4,u5],_ =>
    have f0:DataW.trod enc Tryz.prog w base spare held n2 4 [u0]=ys[0]?:=by simpa [cellsBool] using hf 0 _ rfl
    have f1:DataW.trod enc Tryz.prog w base spare held n2 33 [u1,u2,u3]=ys[1]?:=by simpa [cellsSign'] using hf 1 _ rfl
    have f2:DataW.trod enc Tryz.prog w base spare held n2 4 [u4]=ys[2]?:=by simpa [cellsBool] using hf 2 _ rfl
    have f3:DataW.trod enc Tryz.prog w base spare held n2 34 [u5]=ys[3]?:=by simpa [cellsStops] using hf 3 _ rfl
    have gy:∀ j,j<4→∃ y,ys[j]?=some y:=fun j hj=>⟨_,List.getElem?_eq_getElem (by rw [hys];exact hj)⟩
    obtain ⟨y0,hy0⟩:=gy 0 (by omega)
    obtain ⟨y1,hy1⟩:=gy 1 (by omega)
    obtain ⟨y2,hy2⟩:=gy 2 (by omega)
    obtain ⟨y3,hy3⟩:=gy 3 (by omega)
    rw [hy0] at f0;rw [hy1] at f1;rw [hy2] at f2;rw [hy3] at f3
    obtain ⟨zs,n3,_,_,_,hzs,hg⟩:=DataW.trod_struct Tryz.underlying33 f1
    have s0:DataW.trod enc Tryz.prog w base spare held n3 3 [u1]=zs[0]?:=by simpa [cellsInt] using hg 0 _ rfl
    have s1:DataW.trod enc Tryz.prog w base spare held n3 4 [u2]=zs[1]?:=by simpa [cellsBool] using hg 1 _ rfl
    have s2:DataW.trod enc Tryz.prog w base spare held n3 4 [u3]=zs[2]?:=by simpa [cellsBool] using hg 2 _ rfl
    have gz:∀ j,j<3→∃ y,zs[j]?=some y:=fun j hj=>⟨_,List.getElem?_eq_getElem (by rw [hzs];exact hj)⟩
    obtain ⟨z0,hz0⟩:=gz 0 (by omega)
    obtain ⟨z1,hz1⟩:=gz 1 (by omega)
    obtain ⟨z2,hz2⟩:=gz 2 (by omega)
    rw [hz0] at s0;rw [hz1] at s1;rw [hz2] at s2
    obtain ⟨b0,e0,_⟩:=DataW.trod_bool Tryz.underlying4 f0
    obtain ⟨b1,e1,_,_⟩:=DataW.trod_int Tryz.underlying3 s0
    obtain ⟨b2,e2,_⟩:=DataW.trod_bool Tryz.underlying4 s1
    obtain ⟨b3,e3,_⟩:=DataW.trod_bool Tryz.underlying4 s2
    obtain ⟨b4,e4,_⟩:=DataW.trod_bool Tryz.underlying4 f2
    obtain ⟨S,c,l,e5,hlc,_,hS⟩:=open_stops f3
    simp only [List.cons.injEq,and_true] at e0 e1 e2 e3 e4
    subst e0 e1 e2 e3 e4 e5
    refine ⟨(⟨b0,b1,b2,b3,b4,l⟩,(S,c)),fun j u hu=>?_,hS,hlc⟩
    have hj:j<6:=(List.getElem?_eq_some_iff.1 hu).1
    have:=hat j hj
    rw [add_of_add] at this
    rw [this]
    exact hu)
  refine ⟨l.map (·.1),?_⟩
  have hll:len=((l.map (·.1)).map eEv).length:=by simp [hlen]
  have key:∀ (i:Nat) r (j:Nat) av,((l.map (·.1)).map eEv)[i]?=some r→r[j]?=some av→∃ x u,l[i]?=some x∧(evCells x.1 x.2)[j]?=some u∧w.cell? (a.add (i*6+j))=some u∧u.oneCell'=true∧RP (fun q=>w.cell? q) av u:=fun i r j av hr hav=>by
   rw [List.map_map,List.getElem?_map] at hr
   cases hx:l[i]? with
   | none=>simp [hx] at hr
   | some x =>
    rw [hx] at hr
    obtain rfl:eEv x.1=r:=by simpa using hr
    obtain ⟨hkl,hkx⟩:=List.getElem?_eq_some_iff.1 hx
    have q:=hq i hkl
    rw [hkx] at q
    have fin:∀ u,(evCells x.1 x.2)[j]?=some u→u.oneCell'=true→RP (fun q=>w.cell? q) av u→∃ x' u,some x=some x'∧(evCells x'.1 x'.2)[j]?=some u∧w.cell? (a.add (i*6+j))=some u∧u.oneCell'=true∧RP (fun q=>w.cell? q) av u:=fun u h1 h2 h3=>⟨x,u,rfl,h1,q.1 j u h1,h2,h3⟩
    match j with
    | 0=>cases hav;exact fin _ rfl rfl (.sc _)
    | 1=>cases hav;exact fin _ rfl rfl (.sc _)
    | 2=>cases hav;exact fin _ rfl rfl (.sc _)
    | 3=>cases hav;exact fin _ rfl rfl (.sc _)
    | 4=>cases hav;exact fin _ rfl rfl (.sc _)
    | 5=>cases hav;exact fin _ rfl rfl (rp_mem q.2.1 q.2.2 (fun _=>rfl) eStp_of)
    | j+6=>simp [eEv] at hav
  rw [hll]
  refine .ls 6 _ (some a) cap a (fun i j=>((l[i]?).bind fun x=>(evCells x.1 x.2)[j]?).getD undef) (by rw [← hll];exact hl) (fun r hr=>?_) (fun _=>rfl) (fun i r j av hr hav=>?_) (fun i r j av hr hav=>?_)
  ·obtain ⟨x,_,rfl⟩:=List.mem_map.1 hr;rfl
  ·obtain ⟨x,u,h1,h2,h3,h4,_⟩:=key i r j av hr hav
   simp only [h1,Option.bind_some,h2,Option.getD_some]
   exact ⟨h3,h4⟩
  ·obtain ⟨x,u,h1,h2,_,_,h5⟩:=key i r j av hr hav
   simp only [h1,Option.bind_some,h2,Option.getD_some]
   exact h5
end
end Go.Proofs.YtgelfflighgajaaGreatDoor
namespace Go.Proofs.YtgelfflighgajaaGreatDoor
open Go.RowKit
set_option maxHeartbeats 8000000
set_option maxRecDepth 100000
theorem inc1_FS (a:Int):Ctr Tryz.prog 109 [.sc (.int .i64 a)] (.sc (.bool (decide (a < 0)))):=by
 refine Ctr.intro Tryz.func109 rfl Tryz.ntmps109 (Nat.le_of_ble_eq_true rfl) (bd_all rfl) fun w0 F0=>?_;dsimp only [St.init,number,Nat.reduceAdd]
 repeat refine W.go rfl ?_
 refine (?_:W _ _ _ _ _)
 dsimp only [St.put,Nat.reduceAdd]
 exact W.ret (fin1 rfl rfl rfl rfl)
abbrev kpB (x:Int):Bool:=!decide (x<0)
def idxN (l:List Int):Nat:=(l.takeWhile kpB).length
theorem tw_mem {p:Int→Bool}:∀ {l:List Int} {x:Int},x∈l.takeWhile p→p x=true
 | [],x,h=>by cases h
 | y::r,x,h=>by
  rw [List.takeWhile_cons] at h
  split at h
  ·rename_i hy
   rcases List.mem_cons.1 h with rfl|h
   ·exact hy
   ·exact tw_mem h
  ·cases h
theorem idxN_le (l:List Int):idxN l≤l.length:=(List.takeWhile_sublist _).length_le
theorem takeWhile_at {l:List Int} {k:Nat} (hk:k<idxN l) (h:k<l.length):¬ l[k]<0:=by
 have h1:(l.takeWhile kpB)[k]'hk∈l.takeWhile kpB:=List.getElem_mem _
 have h2:=tw_mem h1
 have h3:(l.takeWhile kpB)[k]'hk=l[k]:=(List.takeWhile_prefix kpB).getElem _
 rw [h3] at h2
 simpa using h2
theorem idxN_neg {l:List Int} (h:idxN l<l.length):l[idxN l]<0:=by
 have h1:(l.drop (idxN l))=l.dropWhile kpB:=by
  have e:=List.takeWhile_append_dropWhile (p:=kpB) (l:=l)
  have:=List.drop_left (l₁:=l.takeWhile kpB) (l₂:=l.dropWhile kpB)
  rw [e] at this
  exact this
 have h2:l.drop (idxN l)=l[idxN l]::l.drop (idxN l+1):=List.drop_eq_getElem_cons h
 rw [h1] at h2
 have h3:=List.head?_dropWhile_not kpB l
 rw [h2] at h3
 simpa [kpB,List.getElem?_eq_getElem h] using h3
theorem idxN_all {l:List Int} (h:idxN l=l.length):l.filter kpB=l:=by
 rw [List.filter_eq_self]
 intro x hx
 obtain ⟨k,hk,rfl⟩:=List.getElem_of_mem hx
 have:=takeWhile_at (l:=l) (k:=k) (by omega) hk
 simp [kpB];omega
theorem take_idxN (l:List Int):l.take (idxN l)=(l.take (idxN l+1)).filter kpB:=by
 have hp:l.take (idxN l)=l.takeWhile kpB:=by
  have:=List.prefix_iff_eq_take.1 (List.takeWhile_prefix kpB (l:=l))
  exact this.symm
 by_cases h:idxN l<l.length
 ·rw [List.take_succ_eq_append_getElem h,List.filter_append]
  have h1:=idxN_neg h
  rw [List.filter_cons_of_neg (by simp [kpB,h1]),List.filter_nil,List.append_nil,hp]
  rw [List.filter_eq_self.2]
  intro x hx
  exact tw_mem hx
 ·have h2:=idxN_le l
  rw [List.take_of_length_le (by omega),List.take_of_length_le (by omega),idxN_all (by omega)]
theorem idxF_FS (l:List Int) (hl:l.length≤100000):Cto truB 0 Tryz.prog 165 [.sl 0,.sc (.func (.func 109) #[] #[])] [(0,.row 3 1 (l.map eInt))] 1
  (.sc (.int .i64 (if idxN l < l.length then (idxN l:Int) else -1))) [(0,.row 3 1 (l.map eInt))] 1:=by
 refine Cto.intro truS Tryz.func165 rfl Tryz.ntmps165 (Nat.le_of_ble_eq_true rfl) rfl fun w0 F0 fp pg hB=>?_
 dsimp only [number,Nat.reduceAdd]
 repeat (first|refine W.go rfl ?_|refine WL.ev rfl ?_|refine WL.len rfl rfl (by first|exact List.length_map _|exact List.length_replicate|rfl) ?_)
 refine (?_:W _ _ _ _ _)
 dsimp only [St.put,Nat.reduceAdd]
 refine W.loop (fun k:Nat=>k≤l.length∧k≤idxN l) (fun k=>⟨[(0,.sl 0),(1,.sc (.func (.func 109) #[] #[])),(7,.sc (.int .i64 l.length)),(8,.sc (.int .i64 k))],[(0,.row 3 1 (l.map eInt))],1⟩) (fun k=>l.length - k) 0 ⟨by omega,by omega⟩ (Tr.ren id (by repeat (first|exact trivial|refine ⟨⟨?_,?_⟩,?_⟩|rfl)) (by repeat (first|exact trivial|refine ⟨⟨?_,?_,?_⟩,?_⟩|rfl)) rfl) fun k hk=>?_
 obtain ⟨hk1,hk2⟩:=hk
 have hle:=idxN_le l
 by_cases hlt:k < l.length
 ·have hat:(l.map eInt)[((k:Nat):Int).toNat]?=some (eInt l[k]):=map_at hlt
  repeat (first|refine W.gob rfl ?_|refine WL.nil ?_|refine WL.bt rfl rfl rfl (by omega) ?_|refine WL.e1 rfl ?_|refine WL.ixs rfl rfl (by first|omega|(simp;done)|(simp;omega)) ?_|refine W.condT rfl ?_)
  refine (?_:WL _ _ _ _ _ _)
  dsimp only [St.put,Nat.reduceAdd]
  refine WL.ldr rfl rfl hat rfl rfl ?_
  refine (?_:WL _ _ _ _ _ _)
  dsimp only [St.put,Nat.reduceAdd]
  refine WL.vl rfl (WV.callV (truH _) rfl (callF Tryz.func109 rfl rfl) rfl rfl rfl rfl rfl (inc1_FS l[k]).g) ?_
  repeat refine WL.nil ?_
  refine (?_:W _ _ _ _ _)
  dsimp only [St.put,Nat.reduceAdd]
  (refine W.cond rfl (fun hif=>?_) (fun hif=>?_)<;>(try simp only [decide_eq_true_eq,decide_eq_false_iff_not,Int.not_lt,Int.not_le,Bool.not_eq_true',Bool.not_eq_false'] at hif))
  ·have e:idxN l=k:=by
    rcases Nat.lt_or_ge k (idxN l) with h|h
    ·exact absurd hif (takeWhile_at h hlt)
    ·omega
   rw [if_pos (by omega),e]
   repeat refine W.go rfl ?_
   refine (?_:W _ _ _ _ _)
   dsimp only [St.put,Nat.reduceAdd]
   exact W.ret (finM rfl rfl rfl rfl rfl)
  ·have e:k < idxN l:=by
    rcases Nat.lt_or_ge k (idxN l) with h|h
    ·exact h
    ·have e:idxN l=k:=by omega
     have:=idxN_neg (l:=l) (by omega)
     simp only [e] at this
     omega
   repeat (first|refine W.go rfl ?_|refine WL.ev rfl ?_|refine WL.ar rfl rfl (by unfold I64;omega) ?_)
   dsimp only [St.put,Nat.reduceAdd]
   exact ⟨k+1,⟨by omega,by omega⟩,by omega,(Tr.ren id (by repeat (first|exact trivial|refine ⟨⟨?_,?_⟩,?_⟩|rfl)) (by repeat (first|exact trivial|refine ⟨⟨?_,?_,?_⟩,?_⟩|rfl)) rfl)⟩
 ·rw [if_neg (by omega)]
  repeat (first|refine W.gob rfl ?_|refine WL.nil ?_|refine WL.bf rfl rfl rfl (by omega) ?_|refine WL.e1 rfl ?_|refine W.condF rfl ?_)
  refine (?_:W _ _ _ _ _)
  dsimp only [St.put,Nat.reduceAdd]
  exact W.ret (finM rfl rfl rfl rfl rfl)
structure DelI (l R:List Int) (i j:Nat):Prop where
 len:R.length=l.length
 ij:i<j∧j≤l.length
 kept:R.take i=(l.take j).filter kpB
 rest:∀ k (h:k<l.length),j≤k→R[k]?=some l[k]
theorem DelI.start {l:List Int} (h:idxN l<l.length):DelI l l (idxN l) (idxN l+1) :=
 ⟨rfl,⟨by omega,by omega⟩,take_idxN l,fun k hk _=>List.getElem?_eq_getElem hk⟩
theorem DelI.skip {l R:List Int} {i j:Nat} (h:DelI l R i j) (hj:j<l.length) (hn:l[j]<0):DelI l R i (j+1):=by
 refine ⟨h.len,⟨by have:=h.ij;omega,by omega⟩,?_,fun k hk h2=>h.rest k hk (by omega)⟩
 rw [h.kept,List.take_succ_eq_append_getElem hj,List.filter_append,List.filter_cons_of_neg (by simp [kpB,hn])]
 simp
theorem DelI.keep {l R:List Int} {i j:Nat} (h:DelI l R i j) (hj:j<l.length) (hn:¬ l[j]<0):DelI l (R.set i l[j]) (i+1) (j+1):=by
 have hij:=h.ij
 have hlen:=h.len
 refine ⟨by simpa using h.len,⟨by omega,by omega⟩,?_,fun k hk h2=>?_⟩
 ·have hi:i<(R.set i l[j]).length:=by simp;omega
  rw [List.take_succ_eq_append_getElem hi,List.take_set_of_le (Nat.le_refl _),h.kept,List.take_succ_eq_append_getElem hj,List.filter_append,List.filter_cons_of_pos (by simp [kpB];omega)]
  simp
 ·rw [List.getElem?_set_ne (by omega)]
  exact h.rest k hk (by omega)
theorem del_FS (l:List Int) (hl:l.length≤100000):Cto truB 0 Tryz.prog 108 [.sl 0,.sc (.func (.func 109) #[] #[])] [(0,.row 3 1 (l.map eInt))] 1
  (.sl 1) [(1,.row 3 1 ((l.filter kpB).map eInt))] 2:=by
 have hI:=idxF_FS l hl
 refine Cto.intro truS Tryz.func108 rfl Tryz.ntmps108 (Nat.le_of_ble_eq_true rfl) rfl fun w0 F0 fp pg hB=>?_
 dsimp only [number,Nat.reduceAdd]
 by_cases h:idxN l < l.length
 rotate_left
 ·rw [if_neg h] at hI
  have e:l.filter kpB=l:=idxN_all (by have:=idxN_le l;omega)
  rw [e]
  repeat refine W.go rfl ?_
  refine (?_:WL _ _ _ _ _ _)
  dsimp only [St.put,Nat.reduceAdd]
  refine WL.cto (truH _) [0] rfl rfl (callF Tryz.func165 rfl rfl) hI rfl rfl rfl ⟨⟨rfl,rfl,rfl⟩,trivial⟩ rfl rfl rfl rfl ?_
  repeat (first|refine W.go rfl ?_|refine WL.ev rfl ?_|refine W.condT rfl ?_)
  refine (?_:W _ _ _ _ _)
  dsimp only [St.put,Nat.reduceAdd]
  refine W.tr (Tr.mv (t:=4) rfl rfl) ?_
  refine W.tr (σ':=⟨[(4,.sl 1)],[(1,.row 3 1 (l.map eInt))],2⟩) (Tr.ren id (by repeat (first|exact trivial|refine ⟨⟨?_,?_⟩,?_⟩|rfl)) (by repeat (first|exact trivial|refine ⟨⟨?_,?_,?_⟩,?_⟩|rfl)) rfl) ?_
  exact W.ret (finM rfl rfl rfl rfl rfl)
 ·rw [if_pos h] at hI
  have h0:=DelI.start h
  repeat refine W.go rfl ?_
  refine (?_:WL _ _ _ _ _ _)
  dsimp only [St.put,Nat.reduceAdd]
  refine WL.cto (truH _) [0] rfl rfl (callF Tryz.func165 rfl rfl) hI rfl rfl rfl ⟨⟨rfl,rfl,rfl⟩,trivial⟩ rfl rfl rfl rfl ?_
  repeat (first|refine W.gob rfl ?_|refine WL.nil ?_|refine WL.bf rfl rfl rfl (by omega) ?_|refine WL.e1 rfl ?_|refine WL.ar rfl rfl (by unfold I64;omega) ?_|refine W.condF rfl ?_)
  refine (?_:W _ _ _ _ _)
  dsimp only [St.put,Nat.reduceAdd]
  refine W.loop (fun s:List Int×Nat×Nat=>DelI l s.1 s.2.1 s.2.2) (fun s=>⟨[(0,.sl 0),(1,.sc (.func (.func 109) #[] #[])),(5,.sc (.int .i64 s.2.1)),(6,.sc (.int .i64 s.2.2))],[(0,.row 3 1 (s.1.map eInt))],1⟩) (fun s=>l.length - s.2.2) (l,idxN l,idxN l+1) h0 (Tr.ren id (by repeat (first|exact trivial|refine ⟨⟨?_,?_⟩,?_⟩|rfl)) (by repeat (first|exact trivial|refine ⟨⟨?_,?_,?_⟩,?_⟩|rfl)) rfl) fun s hs=>?_
  obtain ⟨R,i,j⟩:=s
  have hlen:=hs.len
  have hij:=hs.ij
  dsimp only at hs hlen hij ⊢
  by_cases hlt:j < l.length
  ·have hRj:=hs.rest j hlt (Nat.le_refl _)
   have hat:(R.map eInt)[((j:Nat):Int).toNat]?=some (eInt l[j]):=by rw [Int.toNat_natCast,List.getElem?_map,hRj];rfl
   have hRl:(R.map eInt).length=l.length:=by rw [List.length_map];exact hlen
   repeat (first|refine W.gob rfl ?_|refine WL.nil ?_|refine WL.bt rfl rfl rfl (by omega) ?_|refine WL.e1 rfl ?_|refine WL.len rfl rfl (by first|exact List.length_map _|exact List.length_replicate|rfl) ?_|refine WL.ixs rfl rfl (by first|omega|(simp;done)|(simp;omega)) ?_|refine W.condT rfl ?_)
   refine (?_:WL _ _ _ _ _ _)
   dsimp only [St.put,Nat.reduceAdd]
   refine WL.ldr rfl rfl hat rfl rfl ?_
   repeat (first|refine W.gob rfl ?_|refine WL.nil ?_|refine WL.e1 rfl ?_)
   refine (?_:WL _ _ _ _ _ _)
   dsimp only [St.put,Nat.reduceAdd]
   refine WL.vl rfl (WV.callV (truH _) rfl (callF Tryz.func109 rfl rfl) rfl rfl rfl rfl rfl (inc1_FS l[j]).g) ?_
   repeat (first|refine WL.nil ?_|refine WL.e1 rfl ?_)
   refine (?_:W _ _ _ _ _)
   dsimp only [St.put,Nat.reduceAdd]
   (refine W.cond rfl (fun hif=>?_) (fun hif=>?_)<;>(try simp only [decide_eq_true_eq,decide_eq_false_iff_not,Int.not_lt,Int.not_le,Bool.not_eq_true',Bool.not_eq_false'] at hif))
   ·have hil:i < R.length:=by omega
    have hati:(R.map eInt)[((i:Nat):Int).toNat]?=some (eInt (R.getD i 0)):=by
     rw [Int.toNat_natCast,List.getElem?_map,List.getD_eq_getElem?_getD,List.getElem?_eq_getElem hil];rfl
    have hset:=eInt_set R i l[j]
    repeat (first|refine W.gob rfl ?_|refine WL.e1 rfl ?_|refine WL.ixs rfl rfl (by first|omega|(simp;done)|(simp;omega)) ?_)
    refine (?_:WL _ _ _ _ _ _)
    dsimp only [St.put,Nat.reduceAdd]
    refine WL.sto rfl rfl rfl rfl hati (by show 0+1≤1;omega) ?_
    repeat (first|refine W.go rfl ?_|refine WL.nil ?_|refine WL.ev rfl ?_|refine WL.ar rfl rfl (by unfold I64;omega) ?_)
    dsimp only [St.put,Nat.reduceAdd]
    exact ⟨(R.set i l[j],i+1,j+1),hs.keep hlt (by omega),by dsimp only;omega,(Tr.ren (fun q=>q) (by repeat (first|exact trivial|refine ⟨⟨?_,?_⟩,?_⟩|rfl)) (by repeat (first|exact trivial|refine ⟨⟨?_,?_,?_⟩,?_⟩|rfl|exact congrArg (fun q=>some (AO.row _ _ q)) hset)) rfl)⟩
   ·repeat (first|refine W.go rfl ?_|refine WL.ev rfl ?_|refine WL.ar rfl rfl (by unfold I64;omega) ?_)
    dsimp only [St.put,Nat.reduceAdd]
    exact ⟨(R,i,j+1),hs.skip hlt (by omega),by dsimp only;omega,(Tr.ren id (by repeat (first|exact trivial|refine ⟨⟨?_,?_⟩,?_⟩|rfl)) (by repeat (first|exact trivial|refine ⟨⟨?_,?_,?_⟩,?_⟩|rfl)) rfl)⟩
  ·have hj:j=l.length:=by omega
   have hk:=hs.kept
   rw [hj,List.take_length] at hk
   have hRl:(R.map eInt).length=R.length:=List.length_map _
   have hfin:((R.map eInt).take ((i:Nat):Int).toNat++List.replicate ((R.map eInt).length - ((i:Nat):Int).toNat) [AV.sc (.int .i64 0)]).take ((i:Nat):Int).toNat=(l.filter kpB).map eInt:=by
    rw [Int.toNat_natCast,List.take_append_of_le_length (by simp;omega),List.take_take,Nat.min_self,← List.map_take,hk]
   repeat (first|refine W.gob rfl ?_|refine WL.nil ?_|refine WL.bf rfl rfl rfl (by omega) ?_|refine WL.e1 rfl ?_|refine WL.len rfl rfl (by first|exact List.length_map _|exact List.length_replicate|rfl) ?_|refine W.condF rfl ?_)
   refine (?_:WL _ _ _ _ _ _)
   dsimp only [St.put,Nat.reduceAdd]
   refine WL.clr rfl rfl rfl rfl rfl rfl rfl rfl ⟨by omega,by rw [hRl];omega⟩ ?_
   repeat (first|refine W.gob rfl ?_|refine WL.nil ?_|refine WL.e1 rfl ?_)
   refine (?_:WL _ _ _ _ _ _)
   dsimp only [St.put,Nat.reduceAdd]
   refine WL.pre rfl rfl rfl ⟨by omega,by simp;omega⟩ ?_
   repeat (first|refine WL.nil ?_|refine WL.e1 rfl ?_)
   refine (?_:W _ _ _ _ _)
   dsimp only [St.put,Nat.reduceAdd]
   refine W.tr (σ':=⟨[(4,.sl 1)],[(1,.row 3 1 ((l.filter kpB).map eInt))],2⟩) (Tr.ren (fun q=>q) (by repeat (first|exact trivial|refine ⟨⟨?_,?_⟩,?_⟩|rfl)) (by repeat (first|exact trivial|refine ⟨⟨?_,?_,?_⟩,?_⟩|rfl|exact congrArg (fun q=>some (AO.row _ _ q)) hfin)) rfl) ?_
   exact W.ret (finM rfl rfl rfl rfl rfl)
end Go.Proofs.YtgelfflighgajaaGreatDoor
namespace Go.Proofs.YtgelfflighgajaaGreatDoor
open Go.RowKit
set_option maxHeartbeats 8000000
set_option maxRecDepth 100000
theorem chkInc_FS (n:Int):Ctr Tryz.prog 93 [.sc (.int .i64 n)] (.sc (.int .i64 (if n < 1∨16 < n then 1 else 0))):=by
 by_cases h:n < 1∨16 < n
 ·rw [if_pos h]
  have h2:n < 1∨(¬ n < 1∧16 < n):=by omega
  rcases h2 with h2|h2
  all_goals
   refine Ctr.intro Tryz.func93 rfl Tryz.ntmps93 (Nat.le_of_ble_eq_true rfl) (bd_all rfl) fun w0 F0=>?_;dsimp only [St.init,number,Nat.reduceAdd]
   repeat (first|refine W.gob rfl ?_|refine WL.nil ?_|refine WL.bt rfl rfl rfl (by omega) ?_|refine WL.bf rfl rfl rfl (by omega) ?_|refine WL.e1 rfl ?_|refine WL.gyes rfl rfl rfl rfl ?_|refine WL.opno rfl rfl rfl rfl rfl rfl rfl ?_|refine W.condT rfl ?_)
   refine (?_:W _ _ _ _ _)
   dsimp only [St.put,Nat.reduceAdd]
   exact W.ret (fin1 rfl rfl rfl rfl)
 ·rw [if_neg h]
  refine Ctr.intro Tryz.func93 rfl Tryz.ntmps93 (Nat.le_of_ble_eq_true rfl) (bd_all rfl) fun w0 F0=>?_;dsimp only [St.init,number,Nat.reduceAdd]
  repeat (first|refine W.gob rfl ?_|refine WL.nil ?_|refine WL.bf rfl rfl rfl (by omega) ?_|refine WL.e1 rfl ?_|refine WL.gyes rfl rfl rfl rfl ?_|refine W.condF rfl ?_)
  refine (?_:W _ _ _ _ _)
  dsimp only [St.put,Nat.reduceAdd]
  exact W.ret (fin1 rfl rfl rfl rfl)
def incE (p:Pce) (n:Int):Int:=if pceE p=0 then (if n<1∨16<n then 1 else 0) else pceE p
def incL (p:Pce) (n:Int):List Int:=if incE p n=0 then incR p n else []
theorem pit_bd {p:Pce} (h0:pceE p=0) {k:Nat} {x:Stp} (hx:StpOk p k x):0≤pitN p.cs p.st x.1 x.2.1∧pitN p.cs p.st x.1 x.2.1≤254:=by
 obtain ⟨hI,_,_⟩:=pceE_zero h0
 obtain ⟨l1,l2,l3,l4,l5⟩:=insE_len hI
 have hc:=hx.crs
 have hk:(x.1-1).toNat<p.cs.length:=by omega
 have hp:=crsE_p l5 _ hk
 have hfr:=crsE_fr l5 _ hk
 have ef:fretsOf p.cs x.1=p.cs[(x.1-1).toNat].2.1:=by
  have:=fretsOf_at hk
  rw [← this];congr 1;omega
 have hf:=hx.fret
 rw [ef] at hf
 unfold pitN
 rw [List.getD_eq_getElem?_getD,List.getElem?_eq_getElem hk]
 simp only [Option.getD_some]
 split
 ·have hs:(x.2.1-1).toNat<p.st.length:=by omega
  have:=stepsBad_bd (Int.le_refl 0) l4 _ hs
  rw [List.getD_eq_getElem?_getD,List.getElem?_eq_getElem hs]
  simp only [Option.getD_some]
  omega
 ·omega
theorem maxP_bd {p:Pce} (h0:pceE p=0) {k:Nat}:∀ (l:List Stp) (n:Int),(∀ x∈l,StpOk p k x)→-1≤n∧n≤254→-1≤maxP p l n∧maxP p l n≤254
 | [],n,_,h=>h
 | x::r,n,hl,h=>by
  have:=pit_bd h0 (hl x (by simp))
  refine maxP_bd h0 r _ (fun y hy=>hl y (by simp [hy])) ?_
  show -1≤upP n (pitN p.cs p.st x.1 x.2.1)∧upP n (pitN p.cs p.st x.1 x.2.1)≤254
  unfold upP
  split<;>omega
theorem mel_bd {p:Pce} (h0:pceE p=0):∀ x∈melR p,-1≤x∧x≤254:=by
 intro x hx
 obtain ⟨e,he,rfl⟩:=List.mem_map.1 hx
 obtain ⟨k,hk,rfl⟩:=List.getElem_of_mem he
 exact maxP_bd h0 _ _ (evOk_of h0 hk).stops ⟨by decide,by decide⟩
theorem pIncipit_FS (p:Pce) (hO:PcOk p) (n:Int):Ctr Tryz.prog 48 [ePce p,.sc (.int .i64 n)] (.tu [.ls 1 ((incL p n).map eInt),.sc (.int .i64 (incE p n))]):=by
 have hn3:=hO.n3
 by_cases h0:pceE p=0
 rotate_left
 ·have e1:incE p n=pceE p:=if_neg h0
  have e2:incL p n=[]:=if_neg (by rw [e1];exact h0)
  have hM:=melody_bad p hO h0
  rw [e2,e1]
  obtain ⟨E,hE⟩:∃ E,pceE p=E:=⟨_,rfl⟩
  rw [hE] at hM h0 ⊢
  refine Ctr.intro Tryz.func48 rfl Tryz.ntmps48 (Nat.le_of_ble_eq_true rfl) (bd_all rfl) fun w0 F0=>?_;dsimp only [St.init,number,Nat.reduceAdd]
  repeat refine W.go rfl ?_
  refine (?_:WL _ _ _ _ _ _)
  dsimp only [St.put,Nat.reduceAdd]
  refine WL.vl rfl (WV.call rfl (callF Tryz.func107 rfl rfl) rfl rfl hM) ?_
  repeat (first|refine W.gob rfl ?_|refine WL.nil ?_|refine WL.nt rfl rfl rfl (by omega) ?_|refine WL.e1 rfl ?_|refine W.condT rfl ?_)
  refine (?_:W _ _ _ _ _)
  dsimp only [St.put,Nat.reduceAdd]
  refine W.tr (Tr.nilR (t:=4) 1 rfl) ?_
  exact W.ret (finN rfl rfl rfl rfl)
 have e1:incE p n=if n < 1∨16 < n then 1 else 0:=if_pos h0
 have hC:=chkInc_FS n
 have hM:=melody_FS p hO h0
 have hml:(melR p).length≤420:=by unfold melR;simp;omega
 by_cases hn:n < 1∨16 < n
 ·rw [if_pos hn] at hC e1
  have e2:incL p n=[]:=if_neg (by rw [e1];decide)
  rw [e2,e1]
  refine Ctr.intro Tryz.func48 rfl Tryz.ntmps48 (Nat.le_of_ble_eq_true rfl) (bd_all rfl) fun w0 F0=>?_;dsimp only [St.init,number,Nat.reduceAdd]
  repeat refine W.go rfl ?_
  refine (?_:WL _ _ _ _ _ _)
  dsimp only [St.put,Nat.reduceAdd]
  refine WL.cto (truH _) [] rfl rfl (callF Tryz.func107 rfl rfl) hM rfl rfl rfl trivial rfl rfl rfl rfl ?_
  repeat (first|refine W.gob rfl ?_|refine WL.nil ?_|refine WL.nf rfl rfl rfl (by omega) ?_|refine WL.e1 rfl ?_|refine W.condF rfl ?_)
  refine (?_:WL _ _ _ _ _ _)
  dsimp only [St.put,Nat.reduceAdd]
  refine WL.vl rfl (WV.call rfl (callF Tryz.func93 rfl rfl) rfl rfl hC) ?_
  repeat (first|refine W.gob rfl ?_|refine WL.nil ?_|refine WL.nt rfl rfl rfl (by omega) ?_|refine WL.e1 rfl ?_|refine W.condT rfl ?_)
  refine (?_:W _ _ _ _ _)
  dsimp only [St.put,Nat.reduceAdd]
  refine W.tr (Tr.nilR (t:=4) 1 rfl) ?_
  exact W.ret (finN rfl rfl rfl rfl)
 rw [if_neg hn] at hC e1
 have e2:incL p n=(difs (sungR p)).take n.toNat:=if_pos e1
 have hD:=del_FS (melR p) (by omega)
 have hs:(melR p).filter kpB=sungR p:=rfl
 rw [hs] at hD
 have hbd:∀ x∈sungR p,-1≤x∧x≤254:=fun x hx=>mel_bd h0 x (List.mem_filter.1 hx).1
 have hsl:(sungR p).length≤420:=by have:=List.length_filter_le kpB (melR p);rw [hs] at this;omega
 rw [e2,e1]
 obtain ⟨L,hL⟩:∃ L,sungR p=L:=⟨_,rfl⟩
 rw [hL] at hD hbd hsl ⊢
 refine Ctr.intro Tryz.func48 rfl Tryz.ntmps48 (Nat.le_of_ble_eq_true rfl) (bd_all rfl) fun w0 F0=>?_;dsimp only [St.init,number,Nat.reduceAdd]
 repeat refine W.go rfl ?_
 refine (?_:WL _ _ _ _ _ _)
 dsimp only [St.put,Nat.reduceAdd]
 refine WL.cto (truH _) [] rfl rfl (callF Tryz.func107 rfl rfl) hM rfl rfl rfl trivial rfl rfl rfl rfl ?_
 repeat (first|refine W.gob rfl ?_|refine WL.nil ?_|refine WL.nf rfl rfl rfl (by omega) ?_|refine WL.e1 rfl ?_|refine W.condF rfl ?_)
 refine (?_:WL _ _ _ _ _ _)
 dsimp only [St.put,Nat.reduceAdd]
 refine WL.vl rfl (WV.call rfl (callF Tryz.func93 rfl rfl) rfl rfl hC) ?_
 repeat (first|refine W.gob rfl ?_|refine WL.nil ?_|refine WL.nf rfl rfl rfl (by omega) ?_|refine WL.e1 rfl ?_|refine W.condF rfl ?_)
 refine (?_:WL _ _ _ _ _ _)
 dsimp only [St.put,Nat.reduceAdd]
 refine WL.cto (truH _) [1] rfl rfl (callF Tryz.func108 rfl rfl) hD rfl rfl rfl ⟨⟨rfl,rfl,rfl⟩,trivial⟩ rfl rfl rfl rfl ?_
 repeat (first|refine W.go rfl ?_|refine WL.ev rfl ?_)
 refine (?_:W _ _ _ _ _)
 dsimp only [St.put,Nat.reduceAdd]
 refine W.tr (Tr.freeze 2 rfl) ?_
 refine W.tr (Tr.nil (t:=9) 3 1 rfl rfl) ?_
 dsimp only [St.put,St.new,St.upd,Nat.reduceAdd]
 refine W.loop (fun k:Nat=>k≤n.toNat∧k≤L.length) (fun k=>⟨[(1,.sc (.int .i64 n)),(6,.ls 1 (L.map eInt)),(9,.sl 0),(10,.sc (.int .i64 ((k+1:Nat):Int)))],[(0,.row 3 1 (((difs L).take k).map eInt))],1⟩) (fun k=>L.length - k) 0 ⟨by omega,by omega⟩ (Tr.ren (fun q=>bif Nat.beq q 0 then 3 else q) (by repeat (first|exact trivial|refine ⟨⟨?_,?_⟩,?_⟩|rfl)) (by repeat (first|exact trivial|refine ⟨⟨?_,?_,?_⟩,?_⟩|rfl|exact congrArg (fun q=>some (AO.row _ _ q)) (by first|rfl|(simp;done)|(simp [eInt];done)|(simp [eLk];done)))) rfl) fun k hk=>?_
 obtain ⟨hk1,hk2⟩:=hk
 have hdl:=difs_length L
 by_cases hlt:k+1 < L.length∧k+1≤n.toNat
 ·obtain ⟨hlt,hlt2⟩:=hlt
  have ez:(((k+1:Nat):Int) - 1).toNat=k:=by omega
  have b1:=hbd L[k+1] (List.getElem_mem _)
  have b2:=hbd (L[k]'(by omega)) (List.getElem_mem _)
  have hcat:=difs_take (l:=L) (i:=k) hlt
  repeat (first|refine W.gob rfl ?_|refine WL.nil ?_|refine WL.bt rfl rfl rfl (by omega) ?_|refine WL.e1 rfl ?_|refine WL.gyes rfl rfl rfl rfl ?_|refine WL.len rfl rfl (by first|exact List.length_map _|exact List.length_replicate|rfl) ?_|refine W.condT rfl ?_)
  refine (?_:W _ _ _ _ _)
  dsimp only [St.put,Nat.reduceAdd]
  refine W.dm [] (by kernel_rfl) (by kernel_rfl) (by kernel_rfl) (by repeat constructor) ?_
  repeat (first|refine DMK.st rfl rfl ?_|refine DMK.ar rfl rfl (by unfold I64;omega) ?_|refine DMK.idx rfl rfl (by omega) (by first|exact map_at (by omega)|exact map_atZ (by omega) (by omega)) ?_)
  have eL:∀ h,L[(((k+1:Nat):Int) - 1).toNat]'h=L[k]'(by omega):=fun h=>by simp only [ez]
  simp only [eL]
  repeat (first|refine DMK.ar rfl rfl (by unfold I64;omega) ?_|refine DMK.s1 rfl (by kernel_rfl) rfl ?_|refine DMK.bd rfl rfl rfl (by repeat constructor) ?_|refine DMK.ap rfl rfl (by first|omega|(simp;done)|(simp;omega)) (by repeat constructor) ?_|refine DMK.nil ?_)
  repeat (first|refine W.go rfl ?_|refine WL.ev rfl ?_|refine WL.ar rfl rfl (by unfold I64;omega) ?_)
  dsimp only [St.put,Nat.reduceAdd]
  refine ⟨k+1,⟨by omega,by omega⟩,by omega,?_⟩
  rw [hcat]
  exact (Tr.ren (fun q=>bif Nat.beq q 0 then 2 else q) (by repeat (first|exact trivial|refine ⟨⟨?_,?_⟩,?_⟩|rfl)) (by repeat (first|exact trivial|refine ⟨⟨?_,?_,?_⟩,?_⟩|rfl|exact congrArg (fun q=>some (AO.row _ _ q)) (by rw [List.map_append];rfl))) rfl)
 ·have hres:(difs L).take n.toNat=(difs L).take k:=by
   by_cases h:k+1≤n.toNat
   ·rw [List.take_of_length_le (by omega),List.take_of_length_le (by omega)]
   ·rw [show n.toNat=k by omega]
  rw [hres]
  have hc:¬ k+1 < L.length∨(k+1 < L.length∧¬ k+1≤n.toNat):=by omega
  rcases hc with hc|⟨hc,hc2⟩
  all_goals
   repeat (first|refine W.gob rfl ?_|refine WL.nil ?_|refine WL.bt rfl rfl rfl (by omega) ?_|refine WL.bf rfl rfl rfl (by omega) ?_|refine WL.e1 rfl ?_|refine WL.gyes rfl rfl rfl rfl ?_|refine WL.opno rfl rfl rfl rfl rfl rfl rfl ?_|refine WL.len rfl rfl (by first|exact List.length_map _|exact List.length_replicate|rfl) ?_|refine W.condF rfl ?_)
   refine (?_:W _ _ _ _ _)
   dsimp only [St.put,Nat.reduceAdd]
   refine W.tr (Tr.freeze 0 rfl) ?_
   exact W.ret (finN rfl rfl rfl rfl)
end Go.Proofs.YtgelfflighgajaaGreatDoor
namespace Go.Proofs.YtgelfflighgajaaGreatDoor
open Go.RowKit
set_option maxHeartbeats 8000000
set_option maxRecDepth 100000
def eSf (x:Sf):List AV:=[.sc (.int .i64 x.1),.sc (.int .i64 x.2.1),.sc (.int .i64 x.2.2.1),.sc (.int .i64 x.2.2.2)]
theorem accN_FS (a:Int):Ctr Tryz.prog 171 [.sc (.int .i64 a)] (.sc (.int .i64 (accN a))):=by
 unfold accN
 by_cases h1:a=1
 ·rw [if_pos h1]
  refine Ctr.intro Tryz.func171 rfl Tryz.ntmps171 (Nat.le_of_ble_eq_true rfl) (bd_all rfl) fun w0 F0=>?_;dsimp only [St.init,number,Nat.reduceAdd]
  repeat (first|refine W.gob rfl ?_|refine WL.nil ?_|refine WL.bt rfl rfl rfl (by omega) ?_|refine WL.e1 rfl ?_|refine W.condT rfl ?_)
  refine (?_:W _ _ _ _ _)
  dsimp only [St.put,Nat.reduceAdd]
  exact W.ret (fin1 rfl rfl rfl rfl)
 ·rw [if_neg h1]
  by_cases h2:a=-1
  ·rw [if_pos h2]
   refine Ctr.intro Tryz.func171 rfl Tryz.ntmps171 (Nat.le_of_ble_eq_true rfl) (bd_all rfl) fun w0 F0=>?_;dsimp only [St.init,number,Nat.reduceAdd]
   repeat (first|refine W.gob rfl ?_|refine WL.nil ?_|refine WL.bt rfl rfl rfl (by omega) ?_|refine WL.bf rfl rfl rfl (by omega) ?_|refine WL.e1 rfl ?_|refine W.condT rfl ?_|refine W.condF rfl ?_)
   refine (?_:W _ _ _ _ _)
   dsimp only [St.put,Nat.reduceAdd]
   exact W.ret (fin1 rfl rfl rfl rfl)
  ·rw [if_neg h2]
   refine Ctr.intro Tryz.func171 rfl Tryz.ntmps171 (Nat.le_of_ble_eq_true rfl) (bd_all rfl) fun w0 F0=>?_;dsimp only [St.init,number,Nat.reduceAdd]
   repeat (first|refine W.gob rfl ?_|refine WL.nil ?_|refine WL.bf rfl rfl rfl (by omega) ?_|refine WL.e1 rfl ?_|refine W.condF rfl ?_)
   refine (?_:W _ _ _ _ _)
   dsimp only [St.put,Nat.reduceAdd]
   exact W.ret (fin1 rfl rfl rfl rfl)
structure ES where
 alt:List (Ln×Int)
 next:Nat
 out:List Sf
abbrev Me:=Int×Int×Int
def nextF (MS:List Me) (ev:Int) (m:Nat):Nat:=m+((MS.drop m).takeWhile fun x=>decide (x.1≤ev)).length
theorem nextF_step {MS:List Me} {ev:Int} {m:Nat} (h:m<MS.length) (h2:MS[m].1≤ev):nextF MS ev m=nextF MS ev (m+1):=by
 unfold nextF
 rw [List.drop_eq_getElem_cons h,List.takeWhile_cons_of_pos (by simpa using h2)]
 simp;omega
theorem nextF_no {MS:List Me} {ev:Int} {m:Nat} (h:m<MS.length) (h2:¬ MS[m].1≤ev):nextF MS ev m=m:=by
 unfold nextF
 rw [List.drop_eq_getElem_cons h,List.takeWhile_cons_of_neg (by simpa using h2)]
 simp
theorem nextF_end {MS:List Me} {ev:Int} {m:Nat} (h:MS.length≤m):nextF MS ev m=m:=by
 unfold nextF
 rw [List.drop_eq_nil_of_le h];simp
def clrE (MS:List Me) (ev:Int) (s:ES):ES:=⟨if nextF MS ev s.next=s.next then s.alt else [],nextF MS ev s.next,s.out⟩
def putE (key:Int) (ev:Int) (sp:Int×Int×Int) (s:ES):ES :=
 if sp.2.1=frcA key s.alt (sp.1,sp.2.2) then ⟨s.alt,s.next,s.out++[(ev,sp.1,sp.2.2,0)]⟩ else ⟨updA (sp.1,sp.2.2) (sp.2.1+2) s.alt,s.next,s.out++[(ev,sp.1,sp.2.2,accN sp.2.1)]⟩
def engN (key:Int) (MS:List Me) (s:ES) (n:Nt):ES:=putE key n.1 (spV n.2.2.1 key) (clrE MS n.1 s)
def engS (key:Int) (MS:List Me) (L:List Nt):ES:=L.foldl (engN key MS) ⟨[],0,[]⟩
def engB (key:Int) (L:List Nt):Bool:=L.any fun n=>decide (spX n.2.2.1 key≠0)
def engX (p:Pce) (key:Int):Int:=if pceE p=0 then (if key < -4∨4 < key then 1 else if engB key (notesR p p.evs.length)=true then 10 else 0) else pceE p
def engL (p:Pce) (key:Int):List Sf:=if engX p key=0 then (engS key (mea p.evs p.evs.length) (notesR p p.evs.length)).out else []
theorem spX_cases {q key:Int} (hk:-4≤key∧key≤4):spX q key=0∨spX q key=10:=by
 unfold spX
 by_cases h:0≤q∧q≤127
 ·rw [if_neg (fun x=>x h),if_neg (fun x=>x hk)]
  split
  ·exact .inl rfl
  ·exact .inr rfl
 ·rw [if_pos h];exact .inr rfl
theorem spV_al {q key:Int} (h:spX q key=0):-1≤(spV q key).2.1∧(spV q key).2.1≤1:=by
 unfold spV
 rw [if_pos h]
 cases hp:spP q key with
 | none=>simp
 | some r =>
  have:=(sndOk_of (spP_of hp).1).1.2.1
  simpa using this
theorem engS_ok {key:Int} {MS:List Me}:∀ (L:List Nt) (s:ES),(∀ n∈L,spX n.2.2.1 key=0)→AltOk s.alt→AltOk (L.foldl (engN key MS) s).alt∧(L.foldl (engN key MS) s).out.length=s.out.length+L.length
 | [],s,_,h=>⟨h,rfl⟩
 | n::r,s,hl,h=>by
  have h1:AltOk (clrE MS n.1 s).alt:=by unfold clrE;dsimp only;split;exact h;exact AltOk.nil
  have h2:=spV_al (hl n (by simp))
  have h3:AltOk (engN key MS s n).alt∧(engN key MS s n).out.length=s.out.length+1:=by
   unfold engN putE
   split
   ·exact ⟨h1,by simp [clrE]⟩
   ·exact ⟨h1.upd _ ⟨by omega,by omega⟩,by simp [clrE]⟩
  obtain ⟨h4,h5⟩:=engS_ok r (engN key MS s n) (fun y hy=>hl y (by simp [hy])) h3.1
  rw [List.foldl_cons]
  exact ⟨h4,by rw [h5,h3.2];simp;omega⟩
theorem pEngrave_FS (p:Pce) (hO:PcOk p) (key:Int):Ctg tabB Tryz.prog 110 [ePce p,.sc (.int .i64 key)] (.tu [.ls 4 ((engL p key).map eSf),.sc (.int .i64 (engX p key))]):=by
 have hn3:=hO.n3
 have hN:=pNotes_FS p hO
 by_cases h0:pceE p=0
 rotate_left
 ·have e1:engX p key=pceE p:=if_neg h0
  have e2:engL p key=[]:=if_neg (by rw [e1];exact h0)
  have e3:notesP p=[]:=if_neg h0
  rw [e2,e1]
  rw [e3] at hN
  obtain ⟨E,hE⟩:∃ E,pceE p=E:=⟨_,rfl⟩
  rw [hE] at hN h0 ⊢
  refine Ctg.intro stabB Tryz.func110 rfl Tryz.ntmps110 (Nat.le_of_ble_eq_true rfl) (bd_all rfl) fun w0 F0 hB=>?_;dsimp only [St.init,number,Nat.reduceAdd]
  repeat refine W.go rfl ?_
  refine (?_:WL _ _ _ _ _ _)
  dsimp only [St.put,Nat.reduceAdd]
  refine WL.vl rfl (WV.call rfl (callF Tryz.func166 rfl rfl) rfl rfl hN) ?_
  repeat (first|refine W.gob rfl ?_|refine WL.nil ?_|refine WL.nt rfl rfl rfl (by omega) ?_|refine WL.e1 rfl ?_|refine W.condT rfl ?_)
  refine (?_:W _ _ _ _ _)
  dsimp only [St.put,Nat.reduceAdd]
  refine W.tr (Tr.nilR (t:=4) 4 rfl) ?_
  exact W.ret (finN rfl rfl rfl rfl)
 have e3:notesP p=notesR p p.evs.length:=if_pos h0
 rw [h0,e3] at hN
 by_cases hk:key < -4∨4 < key
 ·have e1:engX p key=1:=by unfold engX;rw [if_pos h0,if_pos hk]
  have e2:engL p key=[]:=if_neg (by rw [e1];decide)
  rw [e2,e1]
  have hk2:key < -4∨(¬ key < -4∧4 < key):=by omega
  rcases hk2 with hk2|hk2
  all_goals
   refine Ctg.intro stabB Tryz.func110 rfl Tryz.ntmps110 (Nat.le_of_ble_eq_true rfl) (bd_all rfl) fun w0 F0 hB=>?_;dsimp only [St.init,number,Nat.reduceAdd]
   repeat refine W.go rfl ?_
   refine (?_:WL _ _ _ _ _ _)
   dsimp only [St.put,Nat.reduceAdd]
   refine WL.vl rfl (WV.call rfl (callF Tryz.func166 rfl rfl) rfl rfl hN) ?_
   repeat (first|refine W.gob rfl ?_|refine WL.nil ?_|refine WL.bt rfl rfl rfl (by omega) ?_|refine WL.bf rfl rfl rfl (by omega) ?_|refine WL.nf rfl rfl rfl (by omega) ?_|refine WL.e1 rfl ?_|refine WL.gyes rfl rfl rfl rfl ?_|refine WL.opno rfl rfl rfl rfl rfl rfl rfl ?_|refine W.condT rfl ?_|refine W.condF rfl ?_)
   refine (?_:W _ _ _ _ _)
   dsimp only [St.put,Nat.reduceAdd]
   refine W.tr (Tr.nilR (t:=4) 4 rfl) ?_
   exact W.ret (finN rfl rfl rfl rfl)
 have hk2:-4≤key∧key≤4:=by omega
 have hMe:=pMeasures_FS p hO
 have e4:meaR p=mea p.evs p.evs.length:=if_pos h0
 rw [e4,h0] at hMe
 have hml:=mea_length p.evs p.evs.length
 have hmb:=mea_bd p.evs p.evs.length
 have hnl:=notesR_len hO h0
 have e1:engX p key=if engB key (notesR p p.evs.length)=true then 10 else 0:=by unfold engX;rw [if_pos h0,if_neg hk]
 have e2:engL p key=if engB key (notesR p p.evs.length)=true then [] else (engS key (mea p.evs p.evs.length) (notesR p p.evs.length)).out:=by
  unfold engL
  rw [e1]
  cases engB key (notesR p p.evs.length)<;>rfl
 rw [e1,e2]
 obtain ⟨L,hL⟩:∃ L,notesR p p.evs.length=L:=⟨_,rfl⟩
 obtain ⟨MS,hMS⟩:∃ L,mea p.evs p.evs.length=L:=⟨_,rfl⟩
 rw [hL] at hN hnl ⊢
 rw [hMS] at hMe hml hmb ⊢
 refine Ctg.intro stabB Tryz.func110 rfl Tryz.ntmps110 (Nat.le_of_ble_eq_true rfl) (bd_all rfl) fun w0 F0 hB=>?_;dsimp only [St.init,number,Nat.reduceAdd]
 repeat refine W.go rfl ?_
 refine (?_:WL _ _ _ _ _ _)
 dsimp only [St.put,Nat.reduceAdd]
 refine WL.vl rfl (WV.call rfl (callF Tryz.func166 rfl rfl) rfl rfl hN) ?_
 repeat (first|refine W.gob rfl ?_|refine WL.nil ?_|refine WL.bf rfl rfl rfl (by omega) ?_|refine WL.nf rfl rfl rfl (by omega) ?_|refine WL.e1 rfl ?_|refine WL.gyes rfl rfl rfl rfl ?_|refine W.condF rfl ?_)
 refine (?_:WL _ _ _ _ _ _)
 dsimp only [St.put,Nat.reduceAdd]
 refine WL.cto (truH _) [] rfl rfl (callF Tryz.func167 rfl rfl) (newStaff_FS key) rfl rfl rfl trivial rfl rfl rfl rfl ?_
 repeat (first|refine W.go rfl ?_|refine WL.ev rfl ?_)
 refine (?_:WL _ _ _ _ _ _)
 dsimp only [St.put,Nat.reduceAdd]
 refine WL.vl rfl (WV.call rfl (callF Tryz.func112 rfl rfl) rfl rfl hMe) ?_
 repeat (first|refine W.go rfl ?_|refine WL.ev rfl ?_|refine WL.len rfl rfl (by first|exact List.length_map _|exact List.length_replicate|rfl) ?_)
 refine (?_:W _ _ _ _ _)
 dsimp only [St.put,Nat.reduceAdd]
 refine W.tr (Tr.nil (t:=12) 187 4 rfl rfl) ?_
 dsimp only [St.put,St.new,St.upd,Nat.reduceAdd]
 refine W.loop (fun k:Nat=>k≤L.length∧∀ n∈L.take k,spX n.2.2.1 key=0) (fun k=>⟨[(1,.sc (.int .i64 key)),(8,.pt 2 0 0),(9,.ls 3 (MS.map eMea)),(12,.sl 3),(40,.ls 5 (L.map eNt)),(41,.sc (.int .i64 L.length)),(42,.sc (.int .i64 k)),(11,.sc (.int .i64 ((engS key MS (L.take k)).next:Nat)))],[(0,.box 28 (ePce p).cells),(1,.opq (mapQ encLn (valA (engS key MS (L.take k)).alt))),(2,.box 302 [.sc (.int .i64 key),.sl 1]),(3,.row 187 4 ((engS key MS (L.take k)).out.map eSf))],4⟩) (fun k=>L.length - k) 0 ⟨by omega,by simp⟩ (Tr.ren id (by repeat (first|exact trivial|refine ⟨⟨?_,?_⟩,?_⟩|rfl)) (by repeat (first|exact trivial|refine ⟨⟨?_,?_,?_⟩,?_⟩|rfl)) rfl) fun k hk=>?_
 obtain ⟨hk1,hgood⟩:=hk
 obtain ⟨hA,hol⟩:=engS_ok (key:=key) (MS:=MS) (L.take k) ⟨[],0,[]⟩ hgood AltOk.nil
 have hol:(engS key MS (L.take k)).out.length≤8400:=by
  show (List.foldl (engN key MS) ⟨[],0,[]⟩ (L.take k)).out.length≤8400
  rw [hol];simp;omega
 by_cases hlt:k < L.length
 rotate_left
 ·obtain rfl:k=L.length:=by omega
  rw [List.take_length] at hgood
  have hb:engB key L=false:=by
   unfold engB
   rw [List.any_eq_false]
   intro n hn;simp [hgood n hn]
  rw [hb,List.take_length]
  simp only [Bool.false_eq_true,if_false]
  repeat (first|refine W.gob rfl ?_|refine WL.nil ?_|refine WL.bf rfl rfl rfl (by omega) ?_|refine WL.e1 rfl ?_|refine W.condF rfl ?_)
  refine (?_:W _ _ _ _ _)
  dsimp only [St.put,Nat.reduceAdd]
  refine W.tr (Tr.freeze 3 rfl) ?_
  exact W.ret (finN rfl rfl rfl rfl)
 have htk:engS key MS (L.take (k+1))=engN key MS (engS key MS (L.take k)) L[k]:=by
  unfold engS;rw [List.take_succ_eq_append_getElem hlt,List.foldl_append];rfl
 have hnk:∀ x∈L.take (k+1),x∈L.take k∨x=L[k]:=fun x hx=>by
  rw [List.take_succ_eq_append_getElem hlt] at hx
  rcases List.mem_append.1 hx with hx|hx
  ·exact .inl hx
  ·exact .inr (List.mem_singleton.1 hx)
 have hA:AltOk (engS key MS (L.take k)).alt:=hA
 obtain ⟨S,hS⟩:∃ S,engS key MS (L.take k)=S:=⟨_,rfl⟩
 have hmem:L[k]∈L:=List.getElem_mem hlt
 repeat (first|refine W.gob rfl ?_|refine WL.nil ?_|refine WL.bt rfl rfl rfl (by omega) ?_|refine WL.e1 rfl ?_|refine WL.idx rfl rfl (by omega) (by first|exact map_at (by omega)|exact map_atZ (by omega) (by omega)) ?_|refine W.condT rfl ?_)
 refine (?_:W _ _ _ _ _)
 dsimp only [St.put,Nat.reduceAdd]
 obtain ⟨n,hn⟩:∃ n,L[k]=n:=⟨_,rfl⟩
 rw [hS] at hA hol htk ⊢
 rw [hn] at htk hnk hmem ⊢
 refine W.loop (fun m:Nat×List (Ln×Int)=>m.1≤max MS.length S.next∧S.next≤m.1∧nextF MS n.1 S.next=nextF MS n.1 m.1∧m.2=if m.1=S.next then S.alt else []) (fun m=>⟨[(1,.sc (.int .i64 key)),(8,.pt 2 0 0),(9,.ls 3 (MS.map eMea)),(12,.sl 3),(40,.ls 5 (L.map eNt)),(41,.sc (.int .i64 L.length)),(42,.sc (.int .i64 k)),(14,.pt 4 0 0),(11,.sc (.int .i64 (m.1:Nat)))],[(0,.box 28 (ePce p).cells),(1,.opq (mapQ encLn (valA m.2))),(2,.box 302 [.sc (.int .i64 key),.sl 1]),(3,.row 187 4 (S.out.map eSf)),(4,.box 233 (eNt n))],5⟩) (fun m=>max MS.length S.next - m.1) (S.next,S.alt) ⟨by dsimp only;omega,Nat.le_refl _,rfl,(if_pos rfl).symm⟩ (Tr.ren id (by repeat (first|exact trivial|refine ⟨⟨?_,?_⟩,?_⟩|rfl)) (by repeat (first|exact trivial|refine ⟨⟨?_,?_,?_⟩,?_⟩|rfl)) rfl) fun m hm=>?_
 obtain ⟨m,al⟩:=m
 obtain ⟨hm1,hm2,hm3,hm4⟩:=hm
 dsimp only at hm1 hm2 hm3 hm4 ⊢
 by_cases hgo:∃ h:m < MS.length,MS[m].1≤n.1
 ·obtain ⟨h1,h2⟩:=hgo
  repeat refine W.gob rfl ?_
  refine (?_:W _ _ _ _ _)
  refine W.drawK (by kernel_rfl) (by kernel_rfl) ?_
  repeat (first|refine DK.bt rfl rfl (by omega) ?_|refine DK.tt rfl (by first|(simp;done)|fail) ?_|refine DK.st rfl ?_|refine DK.len rfl rfl (by first|exact List.length_map _|exact List.length_replicate|rfl) ?_|refine DK.idx rfl rfl (by omega) (by first|exact map_at (by omega)|exact map_atZ (by omega) (by omega)) ?_|refine DK.nil ?_)
  repeat (first|refine W.gob rfl ?_|refine WL.e1 rfl ?_|refine W.condT rfl ?_)
  refine (?_:WL _ _ _ _ _ _)
  dsimp only [St.put,Nat.reduceAdd]
  refine WL.cto (truH _) [1,2] rfl rfl (callF Tryz.func168 rfl rfl) (stMeasure_FS key al) rfl rfl rfl ⟨⟨rfl,rfl,rfl⟩,⟨rfl,rfl,rfl⟩,trivial⟩ rfl rfl rfl rfl ?_
  repeat (first|refine W.gob rfl ?_|refine WL.nil ?_|refine WL.e1 rfl ?_|refine WL.ar rfl rfl (by unfold I64;omega) ?_)
  dsimp only [St.put,Nat.reduceAdd]
  exact ⟨(m+1,[]),⟨by dsimp only;omega,by dsimp only;omega,hm3.trans (nextF_step h1 h2),(if_neg (by dsimp only;omega)).symm⟩,by dsimp only;omega,(Tr.ren id (by repeat (first|exact trivial|refine ⟨⟨?_,?_⟩,?_⟩|rfl)) (by repeat (first|exact trivial|refine ⟨⟨?_,?_,?_⟩,?_⟩|rfl)) rfl)⟩
 have hnext:nextF MS n.1 S.next=m:=by
  rw [hm3]
  by_cases h:m < MS.length
  ·exact nextF_no h (fun h2=>hgo ⟨h,h2⟩)
  ·exact nextF_end (by omega)
 have hcl:clrE MS n.1 S=⟨al,m,S.out⟩:=by unfold clrE;rw [hnext,hm4]
 have hal:AltOk al:=by rw [hm4];split;exact hA;exact AltOk.nil
 have hen:engN key MS S n=putE key n.1 (spV n.2.2.1 key) ⟨al,m,S.out⟩:=by unfold engN;rw [hcl]
 refine W.seq ?_
 refine W.seqM ⟨[(1,.sc (.int .i64 key)),(8,.pt 2 0 0),(9,.ls 3 (MS.map eMea)),(12,.sl 3),(40,.ls 5 (L.map eNt)),(41,.sc (.int .i64 L.length)),(42,.sc (.int .i64 k)),(14,.pt 4 0 0),(59,.sc (.bool false)),(11,.sc (.int .i64 (m:Nat)))],[(0,.box 28 (ePce p).cells),(1,.opq (mapQ encLn (valA al))),(2,.box 302 [.sc (.int .i64 key),.sl 1]),(3,.row 187 4 (S.out.map eSf)),(4,.box 233 (eNt n))],5⟩ ?_ ?_
 ·have hno:MS.length≤m∨(∃ h:m < MS.length,¬ MS[m].1≤n.1):=by
   by_cases h:m < MS.length
   ·exact .inr ⟨h,fun h2=>hgo ⟨h,h2⟩⟩
   ·exact .inl (by omega)
  rcases hno with h|⟨h1,h2⟩
  all_goals
   refine W.drawK (by kernel_rfl) (by kernel_rfl) ?_
   repeat (first|refine DK.bt rfl rfl (by omega) ?_|refine DK.bf rfl rfl (by omega) ?_|refine DK.tt rfl (by first|(simp;done)|fail) ?_|refine DK.ff rfl (by first|(simp;done)|fail) ?_|refine DK.st rfl ?_|refine DK.len rfl rfl (by first|exact List.length_map _|exact List.length_replicate|rfl) ?_|refine DK.idx rfl rfl (by omega) (by first|exact map_at (by omega)|exact map_atZ (by omega) (by omega)) ?_|refine DK.nil ?_)
   refine (?_:Tr _ _ _)
   exact (Tr.ren id (by repeat (first|exact trivial|refine ⟨⟨?_,?_⟩,?_⟩|rfl)) (by repeat (first|exact trivial|refine ⟨⟨?_,?_,?_⟩,?_⟩|rfl)) rfl)
 have hSp:=pSpell_G n.2.2.1 key
 repeat (first|refine W.gob rfl ?_|refine WL.e1 rfl ?_|refine W.condF rfl ?_)
 refine (?_:WL _ _ _ _ _ _)
 dsimp only [St.put,Nat.reduceAdd]
 refine WL.vl rfl (WV.callG hB rfl (callF Tryz.func169 rfl rfl) rfl rfl hSp) ?_
 rcases spX_cases (q:=n.2.2.1) hk2 with hx|hx
 rotate_left
 ·have hb:engB key L=true:=by
   unfold engB
   rw [List.any_eq_true]
   exact ⟨n,hmem,by rw [hx];decide⟩
  rw [hb,hx]
  simp only [if_true]
  repeat (first|refine W.gob rfl ?_|refine WL.nil ?_|refine WL.nt rfl rfl rfl (by omega) ?_|refine WL.e1 rfl ?_|refine W.condT rfl ?_)
  refine (?_:W _ _ _ _ _)
  dsimp only [St.put,Nat.reduceAdd]
  refine W.tr (Tr.nilR (t:=4) 4 rfl) ?_
  exact W.ret (finN rfl rfl rfl rfl)
 have hspa:=spV_al hx
 rw [hx]
 obtain ⟨sp,hsp⟩:∃ sp,spV n.2.2.1 key=sp:=⟨_,rfl⟩
 rw [hsp] at hspa hen ⊢
 have hgood2:∀ x∈L.take (k+1),spX x.2.2.1 key=0:=fun x hx2=>by
  rcases hnk x hx2 with h|h
  ·exact hgood x h
  ·rw [h];exact hx
 repeat (first|refine W.gob rfl ?_|refine WL.nil ?_|refine WL.nf rfl rfl rfl (by omega) ?_|refine WL.e1 rfl ?_|refine W.condF rfl ?_)
 refine (?_:W _ _ _ _ _)
 dsimp only [St.put,Nat.reduceAdd]
 refine W.dm3 [false,false,false,false,true,false] [5,7] (by kernel_rfl) (by kernel_rfl) (by kernel_rfl) (by repeat constructor) ?_
 repeat refine DMK.st rfl rfl ?_
 refine DMK.ct (truH _) [1,2] rfl rfl (callF Tryz.func170 rfl rfl) (stInForce_FS key al sp.1 sp.2.2 hk2 hal) rfl rfl rfl ⟨⟨rfl,rfl,rfl⟩,⟨rfl,rfl,rfl⟩,trivial⟩ rfl rfl rfl rfl (by repeat constructor) ?_
 repeat (first|refine DMK.st rfl rfl ?_|refine DMK.nil ?_)
 refine (?_:W _ _ _ _ _)
 dsimp only [St.put,Nat.reduceAdd]
 (refine W.cond rfl (fun hif=>?_) (fun hif=>?_)<;>(try simp only [decide_eq_true_eq,decide_eq_false_iff_not,Int.not_lt,Int.not_le,Bool.not_eq_true',Bool.not_eq_false'] at hif))
 ·have hne:¬ sp.2.1=frcA key al (sp.1,sp.2.2):=by first|exact hif|(intro e;exact hif e)|omega
  have hput:engN key MS S n=⟨updA (sp.1,sp.2.2) (sp.2.1+2) al,m,S.out++[(n.1,sp.1,sp.2.2,accN sp.2.1)]⟩:=by rw [hen];exact if_neg hne
  have hr:S.out.map eSf++[eSf (n.1,sp.1,sp.2.2,accN sp.2.1)]=(S.out++[(n.1,sp.1,sp.2.2,accN sp.2.1)]).map eSf:=by simp
  repeat refine W.go rfl ?_
  refine (?_:WL _ _ _ _ _ _)
  dsimp only [St.put,Nat.reduceAdd]
  refine WL.vl rfl (WV.call rfl (callF Tryz.func171 rfl rfl) rfl rfl (accN_FS sp.2.1)) ?_
  repeat (first|refine W.go rfl ?_|refine WL.ev rfl ?_)
  refine (?_:WL _ _ _ _ _ _)
  dsimp only [St.put,Nat.reduceAdd]
  refine WL.cto (truH _) [1,2] rfl rfl (callF Tryz.func172 rfl rfl) (stAlter_FS key al sp.1 sp.2.2 sp.2.1 hspa) rfl rfl rfl ⟨⟨rfl,rfl,rfl⟩,⟨rfl,rfl,rfl⟩,trivial⟩ rfl rfl rfl rfl ?_
  repeat (first|refine W.go rfl ?_|refine WL.nil ?_|refine WL.ev rfl ?_|refine WL.ar rfl rfl (by unfold I64;omega) ?_|refine WL.app rfl rfl rfl (by first|omega|(simp;done)|(simp;omega)) ?_)
  dsimp only [St.put,Nat.reduceAdd]
  refine ⟨k+1,⟨by omega,hgood2⟩,by omega,?_⟩
  rw [htk,hput]
  exact (Tr.ren (fun q=>bif Nat.beq q 3 then 9 else q) (by repeat (first|exact trivial|refine ⟨⟨?_,?_⟩,?_⟩|rfl)) (by repeat (first|exact trivial|refine ⟨⟨?_,?_,?_⟩,?_⟩|rfl|exact congrArg (fun q=>some (AO.row _ _ q)) hr)) rfl)
 ·have heq:sp.2.1=frcA key al (sp.1,sp.2.2):=by first|exact hif|omega
  have hput:engN key MS S n=⟨al,m,S.out++[(n.1,sp.1,sp.2.2,0)]⟩:=by rw [hen];exact if_pos heq
  have hr:S.out.map eSf++[eSf (n.1,sp.1,sp.2.2,0)]=(S.out++[(n.1,sp.1,sp.2.2,0)]).map eSf:=by simp
  repeat (first|refine W.go rfl ?_|refine WL.ev rfl ?_|refine WL.ar rfl rfl (by unfold I64;omega) ?_|refine WL.app rfl rfl rfl (by first|omega|(simp;done)|(simp;omega)) ?_)
  dsimp only [St.put,Nat.reduceAdd]
  refine ⟨k+1,⟨by omega,hgood2⟩,by omega,?_⟩
  rw [htk,hput]
  exact (Tr.ren (fun q=>bif Nat.beq q 3 then 9 else q) (by repeat (first|exact trivial|refine ⟨⟨?_,?_⟩,?_⟩|rfl)) (by repeat (first|exact trivial|refine ⟨⟨?_,?_,?_⟩,?_⟩|rfl|exact congrArg (fun q=>some (AO.row _ _ q)) hr)) rfl)
end Go.Proofs.YtgelfflighgajaaGreatDoor
namespace Go.Proofs.YtgelfflighgajaaGreatDoor
open Go.RowKit
set_option maxRecDepth 100000
set_option maxHeartbeats 4000000
def sgX (a:Int):List UInt8:=if a=0 then [] else if a=1 then [35] else if a=2 then [98] else [61]
def sfT (x:Sf):List UInt8:=cut ltrs x.2.1 (x.2.1+1)++sgX x.2.2.2++Lib.itoa x.2.2.1
def SfOk (x:Sf):Prop:=(0≤x.2.1∧x.2.1≤6)∧I64 x.2.2.1∧(0≤x.2.2.2∧x.2.2.2≤3)
theorem staffed_G (x:Sf) (h:SfOk x):Ctg tabB Tryz.prog 113 [.ag (eSf x)] (.sc (.string (bs (sfT x)))):=by
 obtain ⟨e,l,o,a⟩:=x
 obtain ⟨⟨h1,h2⟩,hI,h3,h4⟩:=h
 dsimp only at h1 h2 hI h3 h4
 have hl3:=itoa_len (n:=o) (by unfold I64 at hI;omega)
 have hI:=itoa_G o hI
 have hT:sfT (e,l,o,a)=cut ltrs l (l+1)++sgX a++Lib.itoa o:=rfl
 have hl1:(cut [67,68,69,70,71,65,66] l (l+1)).length≤1:=cut_ltr (l:=l)
 have hcb:0≤l∧l≤l+1∧l+1≤(ltrs.length:Int):=⟨h1,by omega,by simp [ltrs];omega⟩
 have hsl:(sgX a).length≤1:=by unfold sgX;split<;>(try split)<;>(try split)<;>simp
 have hcat:(cut [67,68,69,70,71,65,66] l (l+1)++sgX a).length≤2:=by rw [List.length_append];omega
 rw [hT]
 obtain ⟨io,hio⟩:∃ z,Lib.itoa o=z:=⟨_,rfl⟩
 rw [hio] at hl3 hI ⊢
 have cases4:(a=0∧sgX a=[])∨(a=1∧sgX a=[35])∨(a=2∧sgX a=[98])∨(a=3∧sgX a=[61]):=by
  have:a=0∨a=1∨a=2∨a=3:=by omega
  rcases this with h|h|h|h<;>subst h<;>simp [sgX]
 rcases cases4 with ⟨ha,hs⟩|⟨ha,hs⟩|⟨ha,hs⟩|⟨ha,hs⟩
 all_goals
  rw [hs] at hcat hsl ⊢
  subst ha
  dsimp only [eSf]
  refine Ctg.intro stabB Tryz.func113 rfl Tryz.ntmps113 (Nat.le_of_ble_eq_true rfl) (bd_all rfl) fun w0 F0 hB=>?_;dsimp only [St.init,number,Nat.reduceAdd]
  repeat refine W.go rfl ?_
  refine (?_:W _ _ _ _ _)
  dsimp only [St.put,Nat.reduceAdd]
  refine W.drawK (by kernel_rfl) (by kernel_rfl) ?_
  repeat (first|refine DK.st rfl ?_|refine DK.ar rfl rfl (by unfold I64;omega) ?_)
  refine DK.vl rfl (cutV_of rfl hcb) ?_
  repeat (first|refine DK.st rfl ?_|refine DK.ixs rfl rfl (by first|omega|(simp;done)|(simp;omega)) ?_|refine DK.cat rfl rfl (by first|omega|(simp;done)|(simp;omega)) ?_)
  refine DK.vl rfl (WV.callG hB rfl (callF Tryz.func116 rfl rfl) rfl rfl hI) ?_
  repeat (first|refine DK.st rfl ?_|refine DK.cat rfl rfl (by first|omega|(simp;done)|(simp;omega)) ?_|refine DK.nil ?_)
  refine (?_:W _ _ _ _ _)
  dsimp only [St.put,Nat.reduceAdd]
  exact W.ret (fin1 rfl rfl rfl rfl)
/-! strings.Join with any separator. -/
theorem joinS_FS (sep:List UInt8) (l:List (List UInt8)) (h1:l.length≤100000) (h2:(Lib.join l sep).length≤100000000):Ctr Tryz.prog 114 [.ls 1 (l.map eStr),.sc (.string (bs sep))] (.sc (.string (bs (Lib.join l sep)))):=by
 intro w F vs hF hR
 match vs,hR.1 with
 | [v,v2],_ =>
  obtain rfl:=(hR.2 1 _ v2 rfl rfl).sc_eq
  obtain ⟨A,c,rfl,hrd,hc⟩:=rd_of_rp (n:=1) (f:=fun t=>[Value.string (bs t)]) hF (by omega) (fun _=>rfl) (fun x j u h=>by
   match j with
   | 0=>cases h;rfl
   | j+1=>simp at h) (hR.2 0 _ v rfl rfl)
  have fin:∀ e w',e=Ending.returned (.string (bs (Lib.join l sep)))→Below w.heap.size w w'→∃ v F',e=.returned v∧Below w.heap.size w w'∧View.le F F'∧(∀ p u,F' p=some u→w'.cell? p=some u)∧(∀ p u,F' p=some u→F p=some u∨w.heap.size≤p.block)∧RP F' (.sc (.string (bs (Lib.join l sep)))) v :=
   fun e w' he hb=>⟨_,F,he,hb,fun _ _ h=>h,fun p u x=>by rw [hb.cell (cell_block (hF p u x))];exact hF p u x,fun _ _ h=>.inl h,.sc _⟩
  by_cases h0:l.length=0
  ·obtain rfl:=List.eq_nil_of_length_eq_zero h0
   exact (strings_Join_none A c (bs sep) w).mono fun e w' ⟨he,hw⟩=>fin e w' he (hw ▸ Below.refl _ _)
  ·obtain ⟨ad,had,hlt,hcell⟩:=hrd (by simp;omega)
   subst had
   have hsp:ad.spot=none:=by
    have:=hcell 0 _ (List.getElem?_eq_getElem (by simp;omega)) 0 (.string (bs (l[0]'(by omega)))) (by simp)
    rw [Nat.zero_mul,Nat.add_zero,add_zero'] at this
    unfold World.cell? at this
    cases hs:ad.spot with
    | none=>rfl
    | some q =>
     split at this
     ·rw [hs] at this;simp at this
     ·cases this
   obtain ⟨bk,off,sp⟩:=ad
   simp only at hsp hlt
   subst hsp
   have hm:(l.map bs).map (fun b=>b.data.toList)=l:=by
    rw [List.map_map]
    exact (List.map_congr_left fun t _=>rfl).trans (List.map_id l)
   have:=strings_Join bk off c (l.map bs) (bs sep) w (fun j x hx=>?_) hlt (by simp;omega) (by simpa using hc) (by rw [hm,bs_data];omega)
   ·rw [hm,bs_data,List.length_map] at this
    exact this.mono fun e w' ⟨he,hb⟩=>fin e w' he hb
   ·rw [List.getElem?_map] at hx
    cases hq:l[j]? with
    | none=>simp [hq] at hx
    | some t =>
     rw [hq] at hx
     obtain rfl:bs t=x:=by simpa using hx
     have:=hcell j _ (by rw [List.getElem?_map,hq];rfl) 0 (.string (bs t)) rfl
     rw [add_flat,Nat.mul_one,Nat.add_zero] at this
     exact this
end Go.Proofs.YtgelfflighgajaaGreatDoor
