/- book.Engrave: the program. -/
import Derived.Test.YtgelfflighgajaaGreatDoorMelTq
import Derived.Test.YtgelfflighgajaaGreatDoorStfTq
import Derived.Test.YtgelfflighgajaaGreatDoorMsfTq
set_option maxHeartbeats 8000000
set_option maxRecDepth 100000
set_option linter.unusedVariables false
set_option linter.unusedSimpArgs false
namespace Go.Proofs.YtgelfflighgajaaGreatDoor
open Go.RowKit
theorem z13o {p : Prop} (h : p := by omega) : p := h
theorem z13k {α : Sort _} {a b : α} (h : a = b := by kernel_rfl) : a = b := h
theorem z13i {z : Int} (h : I64 z := by unfold I64; omega) : I64 z := h
theorem z13s {p : Prop} (h : p := by first | omega | (simp; done) | (simp; omega)) : p := h
theorem z13m {α : Type} {l : List α} {i : Nat} {x : Option α} (h : l[i]? = x := by first | exact map_at (by omega) | exact map_atZ (by omega) (by omega)) : l[i]? = x := h
theorem z13l {m n : Nat} (h : m = n := by first | exact List.length_map _ | exact List.length_replicate | rfl) : m = n := h
theorem z13t {C : Cx} {σ σ' : St} (ρ : Nat → Nat) (ht : TrT σ ρ σ'.nk σ'.t := by repeat (first | exact trivial | refine ⟨⟨?_, ?_⟩, ?_⟩ | rfl)) (hm : TrM σ ρ σ'.nk σ'.M := by repeat (first | exact trivial | refine ⟨⟨?_, ?_, ?_⟩, ?_⟩ | rfl)) (hi : (injB ρ (σ'.M.map (·.1)) && pinB ρ σ'.nk C.np) = true := by rfl) : Tr C σ σ' := Tr.ren ρ ht hm hi
theorem z13u {C : Cx} {σ σ' : St} (ρ : Nat → Nat) (hm : TrM σ ρ σ'.nk σ'.M) (hi : (injB ρ (σ'.M.map (·.1)) && pinB ρ σ'.nk C.np) = true) (ht : TrT σ ρ σ'.nk σ'.t := by repeat (first | exact trivial | refine ⟨⟨?_, ?_⟩, ?_⟩ | rfl)) : Tr C σ σ' := Tr.ren ρ ht hm hi
theorem inc1_FS (a:Int):Ctr Tryz.prog 109 [.sc (.int .i64 a)] (.sc (.bool (decide (a < 0)))):=by
 refine Ctr.intro Tryz.func109 rfl Tryz.ntmps109 (Nat.le_of_ble_eq_true rfl) (bd_all rfl) fun w0 F0=>?_;dsimp only [St.init,number,Nat.reduceAdd]
 repeat refine W.go rfl ?_
 refine (?_:W _ _ _ _ _)
 exact W.ret (fin1 rfl rfl rfl rfl)
abbrev kpB (x:Int):Bool:=!decide (x<0)
def idxN(l:List Int):Nat:=(l.takeWhile kpB).length
theorem tw_mem {p:Int→Bool}:∀ {l:List Int} {x:Int},x∈l.takeWhile p→p x=true
 | [],x,h=>by cases h
 | y::r,x,h=>by
  rw [List.takeWhile_cons]at h
  split at h
  ·rename_i hy
   rcases List.mem_cons.1 h with rfl|h
   ·exact hy
   ·exact tw_mem h
  ·cases h
theorem idxN_le(l:List Int):idxN l≤l.length:=(List.takeWhile_sublist _).length_le
theorem takeWhile_at {l:List Int} {k:Nat} (hk:k<idxN l)(h:k<l.length):¬ l[k]<0:=by
 have h1:(l.takeWhile kpB)[k]'hk∈l.takeWhile kpB:=List.getElem_mem _
 have h2:=tw_mem h1
 have h3:(l.takeWhile kpB)[k]'hk=l[k]:=(List.takeWhile_prefix kpB).getElem _
 rw [h3]at h2
 simpa using h2
theorem idxN_neg {l:List Int} (h:idxN l<l.length):l[idxN l]<0:=by
 have h1:(l.drop (idxN l))=l.dropWhile kpB:=by
  have e:=List.takeWhile_append_dropWhile (p:=kpB) (l:=l)
  have:=List.drop_left (l₁:=l.takeWhile kpB) (l₂:=l.dropWhile kpB)
  rw [e]at this
  exact this
 have h2:l.drop (idxN l)=l[idxN l]::l.drop (idxN l+1):=List.drop_eq_getElem_cons h
 rw [h1]at h2
 have h3:=List.head?_dropWhile_not kpB l
 rw [h2]at h3
 simpa [kpB,List.getElem?_eq_getElem h]using h3
theorem idxN_all {l:List Int} (h:idxN l=l.length):l.filter kpB=l:=by
 rw [List.filter_eq_self]
 intro x hx
 obtain ⟨k,hk,rfl⟩:=List.getElem_of_mem hx
 have:=takeWhile_at (l:=l) (k:=k) z13o hk
 simp [kpB];omega
theorem take_idxN (l:List Int):l.take (idxN l)=(l.take (idxN l+1)).filter kpB:=by
 have hp:l.take (idxN l)=l.takeWhile kpB:=by
  have:=List.prefix_iff_eq_take.1 (List.takeWhile_prefix kpB (l:=l))
  exact this.symm
 by_cases h:idxN l<l.length
 ·rw [List.take_succ_eq_append_getElem h,List.filter_append]
  have h1:=idxN_neg h
  rw [List.filter_cons_of_neg (by simp [kpB,h1]),List.filter_nil,List.append_nil,hp]
  rw [List.filter_eq_self.2]
  intro x hx
  exact tw_mem hx
 ·have h2:=idxN_le l
  rw [List.take_of_length_le (by omega),List.take_of_length_le (by omega),idxN_all (by omega)]
theorem idxF_FS (l:List Int) (hl:l.length≤100000):Cto truB 0 Tryz.prog 165 [.sl 0,.sc (.func (.func 109) #[] #[])] [(0,.row 3 1 (l.map eInt))] 1
  (.sc (.int .i64 (if idxN l < l.length then (idxN l:Int) else -1))) [(0,.row 3 1 (l.map eInt))] 1:=by
 refine Cto.intro truS Tryz.func165 rfl Tryz.ntmps165 (Nat.le_of_ble_eq_true rfl) rfl fun w0 F0 fp pg hB=>?_
 dsimp only [number,Nat.reduceAdd]
 repeat (first|refine W.go rfl ?_|refine WL.ev rfl ?_|refine WL.len rfl rfl z13l ?_)
 refine (?_:W _ _ _ _ _)
 refine W.loop (fun k:Nat=>k≤l.length∧k≤idxN l) (fun k=>⟨[(0,.sl 0),(1,.sc (.func (.func 109) #[] #[])),(7,.sc (.int .i64 l.length)),(8,.sc (.int .i64 k))],[(0,.row 3 1 (l.map eInt))],1⟩) (fun k=>l.length - k) 0 ⟨by omega,by omega⟩ (z13t id) fun k hk=>?_
 obtain ⟨hk1,hk2⟩:=hk
 have hle:=idxN_le l
 by_cases hlt:k < l.length
 ·have hat:(l.map eInt)[((k:Nat):Int).toNat]?=some (eInt l[k]):=map_at hlt
  repeat (first|refine W.gob rfl ?_|refine WL.nil ?_|refine WL.bt rfl rfl rfl z13o ?_|refine WL.e1 rfl ?_|refine WL.ixs rfl rfl z13s ?_|refine W.condT rfl ?_)
  refine (?_:WL _ _ _ _ _ _)
  refine WL.ldr rfl rfl hat rfl rfl ?_
  refine (?_:WL _ _ _ _ _ _)
  refine WL.vl rfl (WV.callV (truH _) rfl (callF Tryz.func109 rfl rfl) rfl rfl rfl rfl rfl (inc1_FS l[k]).g) ?_
  repeat refine WL.nil ?_
  refine (?_:W _ _ _ _ _)
  (refine W.cond rfl (fun hif=>?_) (fun hif=>?_)<;>(try simp only [decide_eq_true_eq,decide_eq_false_iff_not,Int.not_lt,Int.not_le,Bool.not_eq_true',Bool.not_eq_false'] at hif))
  ·have e:idxN l=k:=by
    rcases Nat.lt_or_ge k (idxN l) with h|h
    ·exact absurd hif (takeWhile_at h hlt)
    ·omega
   rw [if_pos (by omega),e]
   repeat refine W.go rfl ?_
   refine (?_:W _ _ _ _ _)
   exact W.ret (finM rfl rfl rfl rfl rfl)
  ·have e:k < idxN l:=by
    rcases Nat.lt_or_ge k (idxN l) with h|h
    ·exact h
    ·have e:idxN l=k:=by omega
     have:=idxN_neg (l:=l) z13o
     simp only [e] at this
     omega
   repeat (first|refine W.go rfl ?_|refine WL.ev rfl ?_|refine WL.ar rfl rfl z13i ?_)
   exact ⟨k+1,⟨by omega,by omega⟩,by omega,(z13t id)⟩
 ·rw [if_neg (by omega)]
  repeat (first|refine W.gob rfl ?_|refine WL.nil ?_|refine WL.bf rfl rfl rfl z13o ?_|refine WL.e1 rfl ?_|refine W.condF rfl ?_)
  refine (?_:W _ _ _ _ _)
  exact W.ret (finM rfl rfl rfl rfl rfl)
structure DelI(l R:List Int)(i j:Nat):Prop where
 len:R.length=l.length
 ij:i<j∧j≤l.length
 kept:R.take i=(l.take j).filter kpB
 rest:∀ k(h:k<l.length),j≤k→R[k]?=some l[k]
theorem DelI.start {l:List Int} (h:idxN l<l.length):DelI l l (idxN l) (idxN l+1) :=
 ⟨rfl,⟨by omega,by omega⟩,take_idxN l,fun k hk _=>List.getElem?_eq_getElem hk⟩
theorem DelI.skip {l R:List Int} {i j:Nat} (h:DelI l R i j)(hj:j<l.length)(hn:l[j]<0):DelI l R i (j+1):=by
 refine⟨h.len,⟨by have:=h.ij;omega,by omega⟩,?_,fun k hk h2=>h.rest k hk z13o⟩
 rw [h.kept,List.take_succ_eq_append_getElem hj,List.filter_append,List.filter_cons_of_neg (by simp [kpB,hn])]
 simp
theorem DelI.keep {l R:List Int} {i j:Nat} (h:DelI l R i j) (hj:j<l.length) (hn:¬ l[j]<0):DelI l (R.set i l[j]) (i+1) (j+1):=by
 have hij:=h.ij
 have hlen:=h.len
 refine ⟨by simpa using h.len,⟨by omega,by omega⟩,?_,fun k hk h2=>?_⟩
 ·have hi:i<(R.set i l[j]).length:=by simp;omega
  rw [List.take_succ_eq_append_getElem hi,List.take_set_of_le (Nat.le_refl _),h.kept,List.take_succ_eq_append_getElem hj,List.filter_append,List.filter_cons_of_pos (by simp [kpB];omega)]
  simp
 ·rw [List.getElem?_set_ne (by omega)]
  exact h.rest k hk z13o
theorem del_FS (l:List Int) (hl:l.length≤100000):Cto truB 0 Tryz.prog 108 [.sl 0,.sc (.func (.func 109) #[] #[])] [(0,.row 3 1 (l.map eInt))] 1
  (.sl 1) [(1,.row 3 1 ((l.filter kpB).map eInt))] 2:=by
 have hI:=idxF_FS l hl
 refine Cto.intro truS Tryz.func108 rfl Tryz.ntmps108 (Nat.le_of_ble_eq_true rfl) rfl fun w0 F0 fp pg hB=>?_
 dsimp only [number,Nat.reduceAdd]
 by_cases h:idxN l < l.length
 rotate_left
 ·rw [if_neg h] at hI
  have e:l.filter kpB=l:=idxN_all (by have:=idxN_le l;omega)
  rw [e]
  repeat refine W.go rfl ?_
  refine (?_:WL _ _ _ _ _ _)
  refine WL.cto (truH _) [0] rfl rfl (callF Tryz.func165 rfl rfl) hI rfl rfl rfl ⟨⟨rfl,rfl,rfl⟩,trivial⟩ rfl rfl rfl rfl ?_
  repeat (first|refine W.go rfl ?_|refine WL.ev rfl ?_|refine W.condT rfl ?_)
  refine (?_:W _ _ _ _ _)
  refine W.tr (Tr.mv (t:=4) rfl rfl) ?_
  refine W.tr (σ':=⟨[(4,.sl 1)],[(1,.row 3 1 (l.map eInt))],2⟩) (z13t id) ?_
  exact W.ret (finM rfl rfl rfl rfl rfl)
 ·rw [if_pos h] at hI
  have h0:=DelI.start h
  repeat refine W.go rfl ?_
  refine (?_:WL _ _ _ _ _ _)
  refine WL.cto (truH _) [0] rfl rfl (callF Tryz.func165 rfl rfl) hI rfl rfl rfl ⟨⟨rfl,rfl,rfl⟩,trivial⟩ rfl rfl rfl rfl ?_
  repeat (first|refine W.gob rfl ?_|refine WL.nil ?_|refine WL.bf rfl rfl rfl z13o ?_|refine WL.e1 rfl ?_|refine WL.ar rfl rfl z13i ?_|refine W.condF rfl ?_)
  refine (?_:W _ _ _ _ _)
  refine W.loop (fun s:List Int×Nat×Nat=>DelI l s.1 s.2.1 s.2.2) (fun s=>⟨[(0,.sl 0),(1,.sc (.func (.func 109) #[] #[])),(5,.sc (.int .i64 s.2.1)),(6,.sc (.int .i64 s.2.2))],[(0,.row 3 1 (s.1.map eInt))],1⟩) (fun s=>l.length - s.2.2) (l,idxN l,idxN l+1) h0 (z13t id) fun s hs=>?_
  obtain ⟨R,i,j⟩:=s
  have hlen:=hs.len
  have hij:=hs.ij
  dsimp only at hs hlen hij ⊢
  by_cases hlt:j < l.length
  ·have hRj:=hs.rest j hlt (Nat.le_refl _)
   have hat:(R.map eInt)[((j:Nat):Int).toNat]?=some (eInt l[j]):=by rw [Int.toNat_natCast,List.getElem?_map,hRj];rfl
   have hRl:(R.map eInt).length=l.length:=by rw [List.length_map];exact hlen
   repeat (first|refine W.gob rfl ?_|refine WL.nil ?_|refine WL.bt rfl rfl rfl z13o ?_|refine WL.e1 rfl ?_|refine WL.len rfl rfl z13l ?_|refine WL.ixs rfl rfl z13s ?_|refine W.condT rfl ?_)
   refine (?_:WL _ _ _ _ _ _)
   refine WL.ldr rfl rfl hat rfl rfl ?_
   repeat (first|refine W.gob rfl ?_|refine WL.nil ?_|refine WL.e1 rfl ?_)
   refine (?_:WL _ _ _ _ _ _)
   refine WL.vl rfl (WV.callV (truH _) rfl (callF Tryz.func109 rfl rfl) rfl rfl rfl rfl rfl (inc1_FS l[j]).g) ?_
   repeat (first|refine WL.nil ?_|refine WL.e1 rfl ?_)
   refine (?_:W _ _ _ _ _)
   (refine W.cond rfl (fun hif=>?_) (fun hif=>?_)<;>(try simp only [decide_eq_true_eq,decide_eq_false_iff_not,Int.not_lt,Int.not_le,Bool.not_eq_true',Bool.not_eq_false'] at hif))
   ·have hil:i < R.length:=by omega
    have hati:(R.map eInt)[((i:Nat):Int).toNat]?=some (eInt (R.getD i 0)):=by
     rw [Int.toNat_natCast,List.getElem?_map,List.getD_eq_getElem?_getD,List.getElem?_eq_getElem hil];rfl
    have hset:=eInt_set R i l[j]
    repeat (first|refine W.gob rfl ?_|refine WL.e1 rfl ?_|refine WL.ixs rfl rfl z13s ?_)
    refine (?_:WL _ _ _ _ _ _)
    refine WL.sto rfl rfl rfl rfl hati (by show 0+1≤1;omega) ?_
    repeat (first|refine W.go rfl ?_|refine WL.nil ?_|refine WL.ev rfl ?_|refine WL.ar rfl rfl z13i ?_)
    exact ⟨(R.set i l[j],i+1,j+1),hs.keep hlt (by omega),by dsimp only;omega,(z13u (fun q=>q) (by repeat (first|exact trivial|refine ⟨⟨?_,?_,?_⟩,?_⟩|rfl|exact congrArg (fun q=>some (AO.row _ _ q)) hset)) rfl)⟩
   ·repeat (first|refine W.go rfl ?_|refine WL.ev rfl ?_|refine WL.ar rfl rfl z13i ?_)
    exact ⟨(R,i,j+1),hs.skip hlt (by omega),by dsimp only;omega,(z13t id)⟩
  ·have hj:j=l.length:=by omega
   have hk:=hs.kept
   rw [hj,List.take_length] at hk
   have hRl:(R.map eInt).length=R.length:=List.length_map _
   have hfin:((R.map eInt).take ((i:Nat):Int).toNat++List.replicate ((R.map eInt).length - ((i:Nat):Int).toNat) [AV.sc (.int .i64 0)]).take ((i:Nat):Int).toNat=(l.filter kpB).map eInt:=by
    rw [Int.toNat_natCast,List.take_append_of_le_length (by simp;omega),List.take_take,Nat.min_self,← List.map_take,hk]
   repeat (first|refine W.gob rfl ?_|refine WL.nil ?_|refine WL.bf rfl rfl rfl z13o ?_|refine WL.e1 rfl ?_|refine WL.len rfl rfl z13l ?_|refine W.condF rfl ?_)
   refine (?_:WL _ _ _ _ _ _)
   refine WL.clr rfl rfl rfl rfl rfl rfl rfl rfl ⟨by omega,by rw [hRl];omega⟩ ?_
   repeat (first|refine W.gob rfl ?_|refine WL.nil ?_|refine WL.e1 rfl ?_)
   refine (?_:WL _ _ _ _ _ _)
   refine WL.pre rfl rfl rfl ⟨by omega,by simp;omega⟩ ?_
   repeat (first|refine WL.nil ?_|refine WL.e1 rfl ?_)
   refine (?_:W _ _ _ _ _)
   refine W.tr (σ':=⟨[(4,.sl 1)],[(1,.row 3 1 ((l.filter kpB).map eInt))],2⟩) (z13u (fun q=>q) (by repeat (first|exact trivial|refine ⟨⟨?_,?_,?_⟩,?_⟩|rfl|exact congrArg (fun q=>some (AO.row _ _ q)) hfin)) rfl) ?_
   exact W.ret (finM rfl rfl rfl rfl rfl)
end Go.Proofs.YtgelfflighgajaaGreatDoor
namespace Go.Proofs.YtgelfflighgajaaGreatDoor
open Go.RowKit
theorem chkInc_FS (n:Int):Ctr Tryz.prog 93 [.sc (.int .i64 n)] (.sc (.int .i64 (if n < 1∨16 < n then 1 else 0))):=by
 by_cases h:n < 1∨16 < n
 ·rw [if_pos h]
  have h2:n < 1∨(¬ n < 1∧16 < n):=by omega
  rcases h2 with h2|h2
  all_goals
   refine Ctr.intro Tryz.func93 rfl Tryz.ntmps93 (Nat.le_of_ble_eq_true rfl) (bd_all rfl) fun w0 F0=>?_;dsimp only [St.init,number,Nat.reduceAdd]
   repeat (first|refine W.gob rfl ?_|refine WL.nil ?_|refine WL.bt rfl rfl rfl z13o ?_|refine WL.bf rfl rfl rfl z13o ?_|refine WL.e1 rfl ?_|refine WL.gyes rfl rfl rfl rfl ?_|refine WL.opno rfl rfl rfl rfl rfl rfl rfl ?_|refine W.condT rfl ?_)
   refine (?_:W _ _ _ _ _)
   exact W.ret (fin1 rfl rfl rfl rfl)
 ·rw [if_neg h]
  refine Ctr.intro Tryz.func93 rfl Tryz.ntmps93 (Nat.le_of_ble_eq_true rfl) (bd_all rfl) fun w0 F0=>?_;dsimp only [St.init,number,Nat.reduceAdd]
  repeat (first|refine W.gob rfl ?_|refine WL.nil ?_|refine WL.bf rfl rfl rfl z13o ?_|refine WL.e1 rfl ?_|refine WL.gyes rfl rfl rfl rfl ?_|refine W.condF rfl ?_)
  refine (?_:W _ _ _ _ _)
  exact W.ret (fin1 rfl rfl rfl rfl)
def incE(p:Pce)(n:Int):Int:=if pceE p=0 then(if n<1∨16<n then 1 else 0)else pceE p
def incL(p:Pce)(n:Int):List Int:=if incE p n=0 then incR p n else []
theorem pit_bd {p:Pce} (h0:pceE p=0) {k:Nat} {x:Stp} (hx:StpOk p k x):0≤pitN p.cs p.st x.1 x.2.1∧pitN p.cs p.st x.1 x.2.1≤254:=by
 obtain⟨hI,_,_⟩:=pceE_zero h0
 obtain⟨l1,l2,l3,l4,l5⟩:=insE_len hI
 have hc:=hx.crs
 have hk:(x.1-1).toNat<p.cs.length:=by omega
 have hp:=crsE_p l5 _ hk
 have hfr:=crsE_fr l5 _ hk
 have ef:fretsOf p.cs x.1=p.cs[(x.1-1).toNat].2.1:=by
  have:=fretsOf_at hk
  rw [← this];congr 1;omega
 have hf:=hx.fret
 rw [ef] at hf
 unfold pitN
 rw [List.getD_eq_getElem?_getD,List.getElem?_eq_getElem hk]
 simp only [Option.getD_some]
 split
 ·have hs:(x.2.1-1).toNat<p.st.length:=by omega
  have:=stepsBad_bd (Int.le_refl 0) l4 _ hs
  rw [List.getD_eq_getElem?_getD,List.getElem?_eq_getElem hs]
  simp only [Option.getD_some]
  omega
 ·omega
theorem maxP_bd {p:Pce} (h0:pceE p=0) {k:Nat}:∀ (l:List Stp)(n:Int),(∀ x∈l,StpOk p k x)→-1≤n∧n≤254→-1≤maxP p l n∧maxP p l n≤254
 | [],n,_,h=>h
 | x::r,n,hl,h=>by
  have:=pit_bd h0 (hl x (by simp))
  refine maxP_bd h0 r _ (fun y hy=>hl y (by simp [hy])) ?_
  show -1≤upP n (pitN p.cs p.st x.1 x.2.1)∧upP n (pitN p.cs p.st x.1 x.2.1)≤254
  unfold upP
  split<;>omega
theorem mel_bd {p:Pce} (h0:pceE p=0):∀ x∈melR p,-1≤x∧x≤254:=by
 intro x hx
 obtain ⟨e,he,rfl⟩:=List.mem_map.1 hx
 obtain ⟨k,hk,rfl⟩:=List.getElem_of_mem he
 exact maxP_bd h0 _ _ (evOk_of h0 hk).stops ⟨by decide,by decide⟩
theorem pIncipit_FS (p:Pce) (hO:PcOk p) (n:Int):Ctr Tryz.prog 48 [ePce p,.sc (.int .i64 n)] (.tu [.ls 1 ((incL p n).map eInt),.sc (.int .i64 (incE p n))]):=by
 have hn3:=hO.n3
 by_cases h0:pceE p=0
 rotate_left
 ·have e1:incE p n=pceE p:=if_neg h0
  have e2:incL p n=[]:=if_neg (by rw [e1];exact h0)
  have hM:=melody_bad p hO h0
  rw [e2,e1]
  obtain ⟨E,hE⟩:∃ E,pceE p=E:=⟨_,rfl⟩
  rw [hE] at hM h0 ⊢
  refine Ctr.intro Tryz.func48 rfl Tryz.ntmps48 (Nat.le_of_ble_eq_true rfl) (bd_all rfl) fun w0 F0=>?_;dsimp only [St.init,number,Nat.reduceAdd]
  repeat refine W.go rfl ?_
  refine (?_:WL _ _ _ _ _ _)
  refine WL.vl rfl (WV.call rfl (callF Tryz.func107 rfl rfl) rfl rfl hM) ?_
  repeat (first|refine W.gob rfl ?_|refine WL.nil ?_|refine WL.nt rfl rfl rfl z13o ?_|refine WL.e1 rfl ?_|refine W.condT rfl ?_)
  refine (?_:W _ _ _ _ _)
  refine W.tr (Tr.nilR (t:=4) 1 rfl) ?_
  exact W.ret (finN rfl rfl rfl rfl)
 have e1:incE p n=if n < 1∨16 < n then 1 else 0:=if_pos h0
 have hC:=chkInc_FS n
 have hM:=melody_FS p hO h0
 have hml:(melR p).length≤420:=by unfold melR;simp;omega
 by_cases hn:n < 1∨16 < n
 ·rw [if_pos hn] at hC e1
  have e2:incL p n=[]:=if_neg (by rw [e1];decide)
  rw [e2,e1]
  refine Ctr.intro Tryz.func48 rfl Tryz.ntmps48 (Nat.le_of_ble_eq_true rfl) (bd_all rfl) fun w0 F0=>?_;dsimp only [St.init,number,Nat.reduceAdd]
  repeat refine W.go rfl ?_
  refine (?_:WL _ _ _ _ _ _)
  refine WL.cto (truH _) [] rfl rfl (callF Tryz.func107 rfl rfl) hM rfl rfl rfl trivial rfl rfl rfl rfl ?_
  repeat (first|refine W.gob rfl ?_|refine WL.nil ?_|refine WL.nf rfl rfl rfl z13o ?_|refine WL.e1 rfl ?_|refine W.condF rfl ?_)
  refine (?_:WL _ _ _ _ _ _)
  refine WL.vl rfl (WV.call rfl (callF Tryz.func93 rfl rfl) rfl rfl hC) ?_
  repeat (first|refine W.gob rfl ?_|refine WL.nil ?_|refine WL.nt rfl rfl rfl z13o ?_|refine WL.e1 rfl ?_|refine W.condT rfl ?_)
  refine (?_:W _ _ _ _ _)
  refine W.tr (Tr.nilR (t:=4) 1 rfl) ?_
  exact W.ret (finN rfl rfl rfl rfl)
 rw [if_neg hn] at hC e1
 have e2:incL p n=(difs (sungR p)).take n.toNat:=if_pos e1
 have hD:=del_FS (melR p) z13o
 have hs:(melR p).filter kpB=sungR p:=rfl
 rw [hs] at hD
 have hbd:∀ x∈sungR p,-1≤x∧x≤254:=fun x hx=>mel_bd h0 x (List.mem_filter.1 hx).1
 have hsl:(sungR p).length≤420:=by have:=List.length_filter_le kpB (melR p);rw [hs] at this;omega
 rw [e2,e1]
 obtain ⟨L,hL⟩:∃ L,sungR p=L:=⟨_,rfl⟩
 rw [hL] at hD hbd hsl ⊢
 refine Ctr.intro Tryz.func48 rfl Tryz.ntmps48 (Nat.le_of_ble_eq_true rfl) (bd_all rfl) fun w0 F0=>?_;dsimp only [St.init,number,Nat.reduceAdd]
 repeat refine W.go rfl ?_
 refine (?_:WL _ _ _ _ _ _)
 refine WL.cto (truH _) [] rfl rfl (callF Tryz.func107 rfl rfl) hM rfl rfl rfl trivial rfl rfl rfl rfl ?_
 repeat (first|refine W.gob rfl ?_|refine WL.nil ?_|refine WL.nf rfl rfl rfl z13o ?_|refine WL.e1 rfl ?_|refine W.condF rfl ?_)
 refine (?_:WL _ _ _ _ _ _)
 refine WL.vl rfl (WV.call rfl (callF Tryz.func93 rfl rfl) rfl rfl hC) ?_
 repeat (first|refine W.gob rfl ?_|refine WL.nil ?_|refine WL.nf rfl rfl rfl z13o ?_|refine WL.e1 rfl ?_|refine W.condF rfl ?_)
 refine (?_:WL _ _ _ _ _ _)
 refine WL.cto (truH _) [1] rfl rfl (callF Tryz.func108 rfl rfl) hD rfl rfl rfl ⟨⟨rfl,rfl,rfl⟩,trivial⟩ rfl rfl rfl rfl ?_
 repeat (first|refine W.go rfl ?_|refine WL.ev rfl ?_)
 refine (?_:W _ _ _ _ _)
 refine W.tr (Tr.freeze 2 rfl) ?_
 refine W.tr (Tr.nil (t:=9) 3 1 rfl rfl) ?_
 dsimp only [St.put,St.new,St.upd,Nat.reduceAdd]
 refine W.loop (fun k:Nat=>k≤n.toNat∧k≤L.length) (fun k=>⟨[(1,.sc (.int .i64 n)),(6,.ls 1 (L.map eInt)),(9,.sl 0),(10,.sc (.int .i64 ((k+1:Nat):Int)))],[(0,.row 3 1 (((difs L).take k).map eInt))],1⟩) (fun k=>L.length - k) 0 ⟨by omega,by omega⟩ (z13u (fun q=>bif Nat.beq q 0 then 3 else q) (by repeat (first|exact trivial|refine ⟨⟨?_,?_,?_⟩,?_⟩|rfl|exact congrArg (fun q=>some (AO.row _ _ q)) (by first|rfl|(simp;done)|(simp [eInt];done)|(simp [eLk];done)))) rfl) fun k hk=>?_
 obtain ⟨hk1,hk2⟩:=hk
 have hdl:=difs_length L
 by_cases hlt:k+1 < L.length∧k+1≤n.toNat
 ·obtain ⟨hlt,hlt2⟩:=hlt
  have ez:(((k+1:Nat):Int) - 1).toNat=k:=by omega
  have b1:=hbd L[k+1] (List.getElem_mem _)
  have b2:=hbd (L[k]'(by omega)) (List.getElem_mem _)
  have hcat:=difs_take (l:=L) (i:=k) hlt
  repeat (first|refine W.gob rfl ?_|refine WL.nil ?_|refine WL.bt rfl rfl rfl z13o ?_|refine WL.e1 rfl ?_|refine WL.gyes rfl rfl rfl rfl ?_|refine WL.len rfl rfl z13l ?_|refine W.condT rfl ?_)
  refine (?_:W _ _ _ _ _)
  refine W.dm [] z13k z13k z13k (by repeat constructor) ?_
  repeat (first|refine DMK.st rfl rfl ?_|refine DMK.ar rfl rfl z13i ?_|refine DMK.idx rfl rfl z13o z13m ?_)
  have eL:∀ h,L[(((k+1:Nat):Int) - 1).toNat]'h=L[k]'(by omega):=fun h=>by simp only [ez]
  simp only [eL]
  repeat (first|refine DMK.ar rfl rfl z13i ?_|refine DMK.s1 rfl z13k rfl ?_|refine DMK.bd rfl rfl rfl (by repeat constructor) ?_|refine DMK.ap rfl rfl z13s (by repeat constructor) ?_|refine DMK.nil ?_)
  repeat (first|refine W.go rfl ?_|refine WL.ev rfl ?_|refine WL.ar rfl rfl z13i ?_)
  refine ⟨k+1,⟨by omega,by omega⟩,by omega,?_⟩
  rw [hcat]
  exact (z13u (fun q=>bif Nat.beq q 0 then 2 else q) (by repeat (first|exact trivial|refine ⟨⟨?_,?_,?_⟩,?_⟩|rfl|exact congrArg (fun q=>some (AO.row _ _ q)) (by rw [List.map_append];rfl))) rfl)
 ·have hres:(difs L).take n.toNat=(difs L).take k:=by
   by_cases h:k+1≤n.toNat
   ·rw [List.take_of_length_le (by omega),List.take_of_length_le (by omega)]
   ·rw [show n.toNat=k by omega]
  rw [hres]
  have hc:¬ k+1 < L.length∨(k+1 < L.length∧¬ k+1≤n.toNat):=by omega
  rcases hc with hc|⟨hc,hc2⟩
  all_goals
   repeat (first|refine W.gob rfl ?_|refine WL.nil ?_|refine WL.bt rfl rfl rfl z13o ?_|refine WL.bf rfl rfl rfl z13o ?_|refine WL.e1 rfl ?_|refine WL.gyes rfl rfl rfl rfl ?_|refine WL.opno rfl rfl rfl rfl rfl rfl rfl ?_|refine WL.len rfl rfl z13l ?_|refine W.condF rfl ?_)
   refine (?_:W _ _ _ _ _)
   refine W.tr (Tr.freeze 0 rfl) ?_
   exact W.ret (finN rfl rfl rfl rfl)
end Go.Proofs.YtgelfflighgajaaGreatDoor
namespace Go.Proofs.YtgelfflighgajaaGreatDoor
open Go.RowKit
def eSf (x:Sf):List AV:=[.sc (.int .i64 x.1),.sc (.int .i64 x.2.1),.sc (.int .i64 x.2.2.1),.sc (.int .i64 x.2.2.2)]
theorem accN_FS (a:Int):Ctr Tryz.prog 171 [.sc (.int .i64 a)] (.sc (.int .i64 (accN a))):=by
 unfold accN
 by_cases h1:a=1
 ·rw [if_pos h1]
  refine Ctr.intro Tryz.func171 rfl Tryz.ntmps171 (Nat.le_of_ble_eq_true rfl) (bd_all rfl) fun w0 F0=>?_;dsimp only [St.init,number,Nat.reduceAdd]
  repeat (first|refine W.gob rfl ?_|refine WL.nil ?_|refine WL.bt rfl rfl rfl z13o ?_|refine WL.e1 rfl ?_|refine W.condT rfl ?_)
  refine (?_:W _ _ _ _ _)
  exact W.ret (fin1 rfl rfl rfl rfl)
 ·rw [if_neg h1]
  by_cases h2:a=-1
  ·rw [if_pos h2]
   refine Ctr.intro Tryz.func171 rfl Tryz.ntmps171 (Nat.le_of_ble_eq_true rfl) (bd_all rfl) fun w0 F0=>?_;dsimp only [St.init,number,Nat.reduceAdd]
   repeat (first|refine W.gob rfl ?_|refine WL.nil ?_|refine WL.bt rfl rfl rfl z13o ?_|refine WL.bf rfl rfl rfl z13o ?_|refine WL.e1 rfl ?_|refine W.condT rfl ?_|refine W.condF rfl ?_)
   refine (?_:W _ _ _ _ _)
   exact W.ret (fin1 rfl rfl rfl rfl)
  ·rw [if_neg h2]
   refine Ctr.intro Tryz.func171 rfl Tryz.ntmps171 (Nat.le_of_ble_eq_true rfl) (bd_all rfl) fun w0 F0=>?_;dsimp only [St.init,number,Nat.reduceAdd]
   repeat (first|refine W.gob rfl ?_|refine WL.nil ?_|refine WL.bf rfl rfl rfl z13o ?_|refine WL.e1 rfl ?_|refine W.condF rfl ?_)
   refine (?_:W _ _ _ _ _)
   exact W.ret (fin1 rfl rfl rfl rfl)
structure ES where
 alt:List (Ln×Int)
 next:Nat
 out:List Sf
abbrev Me:=Int×Int×Int
def nextF (MS:List Me)(ev:Int)(m:Nat):Nat:=m+((MS.drop m).takeWhile fun x=>decide (x.1≤ev)).length
theorem nextF_step {MS:List Me} {ev:Int} {m:Nat} (h:m<MS.length)(h2:MS[m].1≤ev):nextF MS ev m=nextF MS ev (m+1):=by
 unfold nextF
 rw [List.drop_eq_getElem_cons h,List.takeWhile_cons_of_pos (by simpa using h2)]
 simp;omega
theorem nextF_no {MS:List Me} {ev:Int} {m:Nat} (h:m<MS.length)(h2:¬ MS[m].1≤ev):nextF MS ev m=m:=by
 unfold nextF
 rw [List.drop_eq_getElem_cons h,List.takeWhile_cons_of_neg (by simpa using h2)]
 simp
theorem nextF_end {MS:List Me} {ev:Int} {m:Nat} (h:MS.length≤m):nextF MS ev m=m:=by
 unfold nextF
 rw [List.drop_eq_nil_of_le h];simp
def clrE(MS:List Me)(ev:Int)(s:ES):ES:=⟨if nextF MS ev s.next=s.next then s.alt else [],nextF MS ev s.next,s.out⟩
def putE (key:Int) (ev:Int) (sp:Int×Int×Int) (s:ES):ES :=
 if sp.2.1=frcA key s.alt (sp.1,sp.2.2) then ⟨s.alt,s.next,s.out++[(ev,sp.1,sp.2.2,0)]⟩ else ⟨updA (sp.1,sp.2.2) (sp.2.1+2) s.alt,s.next,s.out++[(ev,sp.1,sp.2.2,accN sp.2.1)]⟩
def engN (key:Int) (MS:List Me) (s:ES) (n:Nt):ES:=putE key n.1 (spV n.2.2.1 key) (clrE MS n.1 s)
def engS (key:Int) (MS:List Me) (L:List Nt):ES:=L.foldl (engN key MS) ⟨[],0,[]⟩
def engB (key:Int)(L:List Nt):Bool:=L.any fun n=>decide (spX n.2.2.1 key≠0)
def engX (p:Pce)(key:Int):Int:=if pceE p=0 then (if key < -4∨4 < key then 1 else if engB key (notesR p p.evs.length)=true then 10 else 0)else pceE p
def engL (p:Pce) (key:Int):List Sf:=if engX p key=0 then (engS key (mea p.evs p.evs.length) (notesR p p.evs.length)).out else []
theorem spX_cases {q key:Int} (hk:-4≤key∧key≤4):spX q key=0∨spX q key=10:=by
 unfold spX
 by_cases h:0≤q∧q≤127
 ·rw [if_neg (fun x=>x h),if_neg (fun x=>x hk)]
  split
  ·exact .inl rfl
  ·exact .inr rfl
 ·rw [if_pos h];exact .inr rfl
theorem spV_al {q key:Int} (h:spX q key=0):-1≤(spV q key).2.1∧(spV q key).2.1≤1:=by
 unfold spV
 rw [if_pos h]
 cases hp:spP q key with
 | none=>simp
 | some r =>
  have:=(sndOk_of (spP_of hp).1).1.2.1
  simpa using this
theorem engS_ok {key:Int} {MS:List Me}:∀ (L:List Nt) (s:ES),(∀ n∈L,spX n.2.2.1 key=0)→AltOk s.alt→AltOk (L.foldl (engN key MS) s).alt∧(L.foldl (engN key MS) s).out.length=s.out.length+L.length
 | [],s,_,h=>⟨h,rfl⟩
 | n::r,s,hl,h=>by
  have h1:AltOk (clrE MS n.1 s).alt:=by unfold clrE;dsimp only;split;exact h;exact AltOk.nil
  have h2:=spV_al (hl n (by simp))
  have h3:AltOk (engN key MS s n).alt∧(engN key MS s n).out.length=s.out.length+1:=by
   unfold engN putE
   split
   ·exact ⟨h1,by simp [clrE]⟩
   ·exact ⟨h1.upd _ ⟨by omega,by omega⟩,by simp [clrE]⟩
  obtain ⟨h4,h5⟩:=engS_ok r (engN key MS s n) (fun y hy=>hl y (by simp [hy])) h3.1
  rw [List.foldl_cons]
  exact ⟨h4,by rw [h5,h3.2];simp;omega⟩
theorem pEngrave_FS (p:Pce) (hO:PcOk p) (key:Int):Ctg tabB Tryz.prog 110 [ePce p,.sc (.int .i64 key)] (.tu [.ls 4 ((engL p key).map eSf),.sc (.int .i64 (engX p key))]):=by
 have hn3:=hO.n3
 have hN:=pNotes_FS p hO
 by_cases h0:pceE p=0
 rotate_left
 ·have e1:engX p key=pceE p:=if_neg h0
  have e2:engL p key=[]:=if_neg (by rw [e1];exact h0)
  have e3:notesP p=[]:=if_neg h0
  rw [e2,e1]
  rw [e3] at hN
  obtain ⟨E,hE⟩:∃ E,pceE p=E:=⟨_,rfl⟩
  rw [hE] at hN h0 ⊢
  refine Ctg.intro stabB Tryz.func110 rfl Tryz.ntmps110 (Nat.le_of_ble_eq_true rfl) (bd_all rfl) fun w0 F0 hB=>?_;dsimp only [St.init,number,Nat.reduceAdd]
  repeat refine W.go rfl ?_
  refine (?_:WL _ _ _ _ _ _)
  refine WL.vl rfl (WV.call rfl (callF Tryz.func166 rfl rfl) rfl rfl hN) ?_
  repeat (first|refine W.gob rfl ?_|refine WL.nil ?_|refine WL.nt rfl rfl rfl z13o ?_|refine WL.e1 rfl ?_|refine W.condT rfl ?_)
  refine (?_:W _ _ _ _ _)
  refine W.tr (Tr.nilR (t:=4) 4 rfl) ?_
  exact W.ret (finN rfl rfl rfl rfl)
 have e3:notesP p=notesR p p.evs.length:=if_pos h0
 rw [h0,e3] at hN
 by_cases hk:key < -4∨4 < key
 ·have e1:engX p key=1:=by unfold engX;rw [if_pos h0,if_pos hk]
  have e2:engL p key=[]:=if_neg (by rw [e1];decide)
  rw [e2,e1]
  have hk2:key < -4∨(¬ key < -4∧4 < key):=by omega
  rcases hk2 with hk2|hk2
  all_goals
   refine Ctg.intro stabB Tryz.func110 rfl Tryz.ntmps110 (Nat.le_of_ble_eq_true rfl) (bd_all rfl) fun w0 F0 hB=>?_;dsimp only [St.init,number,Nat.reduceAdd]
   repeat refine W.go rfl ?_
   refine (?_:WL _ _ _ _ _ _)
   refine WL.vl rfl (WV.call rfl (callF Tryz.func166 rfl rfl) rfl rfl hN) ?_
   repeat (first|refine W.gob rfl ?_|refine WL.nil ?_|refine WL.bt rfl rfl rfl z13o ?_|refine WL.bf rfl rfl rfl z13o ?_|refine WL.nf rfl rfl rfl z13o ?_|refine WL.e1 rfl ?_|refine WL.gyes rfl rfl rfl rfl ?_|refine WL.opno rfl rfl rfl rfl rfl rfl rfl ?_|refine W.condT rfl ?_|refine W.condF rfl ?_)
   refine (?_:W _ _ _ _ _)
   refine W.tr (Tr.nilR (t:=4) 4 rfl) ?_
   exact W.ret (finN rfl rfl rfl rfl)
 have hk2:-4≤key∧key≤4:=by omega
 have hMe:=pMeasures_FS p hO
 have e4:meaR p=mea p.evs p.evs.length:=if_pos h0
 rw [e4,h0] at hMe
 have hml:=mea_length p.evs p.evs.length
 have hmb:=mea_bd p.evs p.evs.length
 have hnl:=notesR_len hO h0
 have e1:engX p key=if engB key (notesR p p.evs.length)=true then 10 else 0:=by unfold engX;rw [if_pos h0,if_neg hk]
 have e2:engL p key=if engB key (notesR p p.evs.length)=true then [] else (engS key (mea p.evs p.evs.length) (notesR p p.evs.length)).out:=by
  unfold engL
  rw [e1]
  cases engB key (notesR p p.evs.length)<;>rfl
 rw [e1,e2]
 obtain ⟨L,hL⟩:∃ L,notesR p p.evs.length=L:=⟨_,rfl⟩
 obtain ⟨MS,hMS⟩:∃ L,mea p.evs p.evs.length=L:=⟨_,rfl⟩
 rw [hL] at hN hnl ⊢
 rw [hMS] at hMe hml hmb ⊢
 refine Ctg.intro stabB Tryz.func110 rfl Tryz.ntmps110 (Nat.le_of_ble_eq_true rfl) (bd_all rfl) fun w0 F0 hB=>?_;dsimp only [St.init,number,Nat.reduceAdd]
 repeat refine W.go rfl ?_
 refine (?_:WL _ _ _ _ _ _)
 refine WL.vl rfl (WV.call rfl (callF Tryz.func166 rfl rfl) rfl rfl hN) ?_
 repeat (first|refine W.gob rfl ?_|refine WL.nil ?_|refine WL.bf rfl rfl rfl z13o ?_|refine WL.nf rfl rfl rfl z13o ?_|refine WL.e1 rfl ?_|refine WL.gyes rfl rfl rfl rfl ?_|refine W.condF rfl ?_)
 refine (?_:WL _ _ _ _ _ _)
 refine WL.cto (truH _) [] rfl rfl (callF Tryz.func167 rfl rfl) (newStaff_FS key) rfl rfl rfl trivial rfl rfl rfl rfl ?_
 repeat (first|refine W.go rfl ?_|refine WL.ev rfl ?_)
 refine (?_:WL _ _ _ _ _ _)
 refine WL.vl rfl (WV.call rfl (callF Tryz.func112 rfl rfl) rfl rfl hMe) ?_
 repeat (first|refine W.go rfl ?_|refine WL.ev rfl ?_|refine WL.len rfl rfl z13l ?_)
 refine (?_:W _ _ _ _ _)
 refine W.tr (Tr.nil (t:=12) 187 4 rfl rfl) ?_
 dsimp only [St.put,St.new,St.upd,Nat.reduceAdd]
 refine W.loop (fun k:Nat=>k≤L.length∧∀ n∈L.take k,spX n.2.2.1 key=0) (fun k=>⟨[(1,.sc (.int .i64 key)),(8,.pt 2 0 0),(9,.ls 3 (MS.map eMea)),(12,.sl 3),(40,.ls 5 (L.map eNt)),(41,.sc (.int .i64 L.length)),(42,.sc (.int .i64 k)),(11,.sc (.int .i64 ((engS key MS (L.take k)).next:Nat)))],[(0,.box 28 (ePce p).cells),(1,.opq (mapQ encLn (valA (engS key MS (L.take k)).alt))),(2,.box 302 [.sc (.int .i64 key),.sl 1]),(3,.row 187 4 ((engS key MS (L.take k)).out.map eSf))],4⟩) (fun k=>L.length - k) 0 ⟨by omega,by simp⟩ (z13t id) fun k hk=>?_
 obtain ⟨hk1,hgood⟩:=hk
 obtain ⟨hA,hol⟩:=engS_ok (key:=key) (MS:=MS) (L.take k) ⟨[],0,[]⟩ hgood AltOk.nil
 have hol:(engS key MS (L.take k)).out.length≤8400:=by
  show (List.foldl (engN key MS) ⟨[],0,[]⟩ (L.take k)).out.length≤8400
  rw [hol];simp;omega
 by_cases hlt:k < L.length
 rotate_left
 ·obtain rfl:k=L.length:=by omega
  rw [List.take_length] at hgood
  have hb:engB key L=false:=by
   unfold engB
   rw [List.any_eq_false]
   intro n hn;simp [hgood n hn]
  rw [hb,List.take_length]
  simp only [Bool.false_eq_true,if_false]
  repeat (first|refine W.gob rfl ?_|refine WL.nil ?_|refine WL.bf rfl rfl rfl z13o ?_|refine WL.e1 rfl ?_|refine W.condF rfl ?_)
  refine (?_:W _ _ _ _ _)
  refine W.tr (Tr.freeze 3 rfl) ?_
  exact W.ret (finN rfl rfl rfl rfl)
 have htk:engS key MS (L.take (k+1))=engN key MS (engS key MS (L.take k)) L[k]:=by
  unfold engS;rw [List.take_succ_eq_append_getElem hlt,List.foldl_append];rfl
 have hnk:∀ x∈L.take (k+1),x∈L.take k∨x=L[k]:=fun x hx=>by
  rw [List.take_succ_eq_append_getElem hlt] at hx
  rcases List.mem_append.1 hx with hx|hx
  ·exact .inl hx
  ·exact .inr (List.mem_singleton.1 hx)
 have hA:AltOk (engS key MS (L.take k)).alt:=hA
 obtain ⟨S,hS⟩:∃ S,engS key MS (L.take k)=S:=⟨_,rfl⟩
 have hmem:L[k]∈L:=List.getElem_mem hlt
 repeat (first|refine W.gob rfl ?_|refine WL.nil ?_|refine WL.bt rfl rfl rfl z13o ?_|refine WL.e1 rfl ?_|refine WL.idx rfl rfl z13o z13m ?_|refine W.condT rfl ?_)
 refine (?_:W _ _ _ _ _)
 obtain ⟨n,hn⟩:∃ n,L[k]=n:=⟨_,rfl⟩
 rw [hS] at hA hol htk ⊢
 rw [hn] at htk hnk hmem ⊢
 refine W.loop (fun m:Nat×List (Ln×Int)=>m.1≤max MS.length S.next∧S.next≤m.1∧nextF MS n.1 S.next=nextF MS n.1 m.1∧m.2=if m.1=S.next then S.alt else []) (fun m=>⟨[(1,.sc (.int .i64 key)),(8,.pt 2 0 0),(9,.ls 3 (MS.map eMea)),(12,.sl 3),(40,.ls 5 (L.map eNt)),(41,.sc (.int .i64 L.length)),(42,.sc (.int .i64 k)),(14,.pt 4 0 0),(11,.sc (.int .i64 (m.1:Nat)))],[(0,.box 28 (ePce p).cells),(1,.opq (mapQ encLn (valA m.2))),(2,.box 302 [.sc (.int .i64 key),.sl 1]),(3,.row 187 4 (S.out.map eSf)),(4,.box 233 (eNt n))],5⟩) (fun m=>max MS.length S.next - m.1) (S.next,S.alt) ⟨by dsimp only;omega,Nat.le_refl _,rfl,(if_pos rfl).symm⟩ (z13t id) fun m hm=>?_
 obtain ⟨m,al⟩:=m
 obtain ⟨hm1,hm2,hm3,hm4⟩:=hm
 dsimp only at hm1 hm2 hm3 hm4 ⊢
 by_cases hgo:∃ h:m < MS.length,MS[m].1≤n.1
 ·obtain ⟨h1,h2⟩:=hgo
  repeat refine W.gob rfl ?_
  refine (?_:W _ _ _ _ _)
  refine W.drawK z13k z13k ?_
  repeat (first|refine DK.bt rfl rfl (by omega) ?_|refine DK.tt rfl (by first|(simp;done)|fail) ?_|refine DK.st rfl ?_|refine DK.len rfl rfl z13l ?_|refine DK.idx rfl rfl (by omega) z13m ?_|refine DK.nil ?_)
  repeat (first|refine W.gob rfl ?_|refine WL.e1 rfl ?_|refine W.condT rfl ?_)
  refine (?_:WL _ _ _ _ _ _)
  refine WL.cto (truH _) [1,2] rfl rfl (callF Tryz.func168 rfl rfl) (stMeasure_FS key al) rfl rfl rfl ⟨⟨rfl,rfl,rfl⟩,⟨rfl,rfl,rfl⟩,trivial⟩ rfl rfl rfl rfl ?_
  repeat (first|refine W.gob rfl ?_|refine WL.nil ?_|refine WL.e1 rfl ?_|refine WL.ar rfl rfl z13i ?_)
  exact ⟨(m+1,[]),⟨by dsimp only;omega,by dsimp only;omega,hm3.trans (nextF_step h1 h2),(if_neg (by dsimp only;omega)).symm⟩,by dsimp only;omega,(z13t id)⟩
 have hnext:nextF MS n.1 S.next=m:=by
  rw [hm3]
  by_cases h:m < MS.length
  ·exact nextF_no h (fun h2=>hgo ⟨h,h2⟩)
  ·exact nextF_end z13o
 have hcl:clrE MS n.1 S=⟨al,m,S.out⟩:=by unfold clrE;rw [hnext,hm4]
 have hal:AltOk al:=by rw [hm4];split;exact hA;exact AltOk.nil
 have hen:engN key MS S n=putE key n.1 (spV n.2.2.1 key) ⟨al,m,S.out⟩:=by unfold engN;rw [hcl]
 refine W.seq ?_
 refine W.seqM ⟨[(1,.sc (.int .i64 key)),(8,.pt 2 0 0),(9,.ls 3 (MS.map eMea)),(12,.sl 3),(40,.ls 5 (L.map eNt)),(41,.sc (.int .i64 L.length)),(42,.sc (.int .i64 k)),(14,.pt 4 0 0),(59,.sc (.bool false)),(11,.sc (.int .i64 (m:Nat)))],[(0,.box 28 (ePce p).cells),(1,.opq (mapQ encLn (valA al))),(2,.box 302 [.sc (.int .i64 key),.sl 1]),(3,.row 187 4 (S.out.map eSf)),(4,.box 233 (eNt n))],5⟩ ?_ ?_
 ·have hno:MS.length≤m∨(∃ h:m < MS.length,¬ MS[m].1≤n.1):=by
   by_cases h:m < MS.length
   ·exact .inr ⟨h,fun h2=>hgo ⟨h,h2⟩⟩
   ·exact .inl z13o
  rcases hno with h|⟨h1,h2⟩
  all_goals
   refine W.drawK z13k z13k ?_
   repeat (first|refine DK.bt rfl rfl (by omega) ?_|refine DK.bf rfl rfl (by omega) ?_|refine DK.tt rfl (by first|(simp;done)|fail) ?_|refine DK.ff rfl (by first|(simp;done)|fail) ?_|refine DK.st rfl ?_|refine DK.len rfl rfl z13l ?_|refine DK.idx rfl rfl (by omega) z13m ?_|refine DK.nil ?_)
   refine (?_:Tr _ _ _)
   exact (z13t id)
 have hSp:=pSpell_G n.2.2.1 key
 repeat (first|refine W.gob rfl ?_|refine WL.e1 rfl ?_|refine W.condF rfl ?_)
 refine (?_:WL _ _ _ _ _ _)
 refine WL.vl rfl (WV.callG hB rfl (callF Tryz.func169 rfl rfl) rfl rfl hSp) ?_
 rcases spX_cases (q:=n.2.2.1) hk2 with hx|hx
 rotate_left
 ·have hb:engB key L=true:=by
   unfold engB
   rw [List.any_eq_true]
   exact ⟨n,hmem,by rw [hx];decide⟩
  rw [hb,hx]
  simp only [if_true]
  repeat (first|refine W.gob rfl ?_|refine WL.nil ?_|refine WL.nt rfl rfl rfl z13o ?_|refine WL.e1 rfl ?_|refine W.condT rfl ?_)
  refine (?_:W _ _ _ _ _)
  refine W.tr (Tr.nilR (t:=4) 4 rfl) ?_
  exact W.ret (finN rfl rfl rfl rfl)
 have hspa:=spV_al hx
 rw [hx]
 obtain ⟨sp,hsp⟩:∃ sp,spV n.2.2.1 key=sp:=⟨_,rfl⟩
 rw [hsp] at hspa hen ⊢
 have hgood2:∀ x∈L.take (k+1),spX x.2.2.1 key=0:=fun x hx2=>by
  rcases hnk x hx2 with h|h
  ·exact hgood x h
  ·rw [h];exact hx
 repeat (first|refine W.gob rfl ?_|refine WL.nil ?_|refine WL.nf rfl rfl rfl z13o ?_|refine WL.e1 rfl ?_|refine W.condF rfl ?_)
 refine (?_:W _ _ _ _ _)
 refine W.dm3 [false,false,false,false,true,false] [5,7] z13k z13k z13k (by repeat constructor) ?_
 repeat refine DMK.st rfl rfl ?_
 refine DMK.ct (truH _) [1,2] rfl rfl (callF Tryz.func170 rfl rfl) (stInForce_FS key al sp.1 sp.2.2 hk2 hal) rfl rfl rfl ⟨⟨rfl,rfl,rfl⟩,⟨rfl,rfl,rfl⟩,trivial⟩ rfl rfl rfl rfl (by repeat constructor) ?_
 repeat (first|refine DMK.st rfl rfl ?_|refine DMK.nil ?_)
 refine (?_:W _ _ _ _ _)
 (refine W.cond rfl (fun hif=>?_) (fun hif=>?_)<;>(try simp only [decide_eq_true_eq,decide_eq_false_iff_not,Int.not_lt,Int.not_le,Bool.not_eq_true',Bool.not_eq_false'] at hif))
 ·have hne:¬ sp.2.1=frcA key al (sp.1,sp.2.2):=by first|exact hif|(intro e;exact hif e)|omega
  have hput:engN key MS S n=⟨updA (sp.1,sp.2.2) (sp.2.1+2) al,m,S.out++[(n.1,sp.1,sp.2.2,accN sp.2.1)]⟩:=by rw [hen];exact if_neg hne
  have hr:S.out.map eSf++[eSf (n.1,sp.1,sp.2.2,accN sp.2.1)]=(S.out++[(n.1,sp.1,sp.2.2,accN sp.2.1)]).map eSf:=by simp
  repeat refine W.go rfl ?_
  refine (?_:WL _ _ _ _ _ _)
  refine WL.vl rfl (WV.call rfl (callF Tryz.func171 rfl rfl) rfl rfl (accN_FS sp.2.1)) ?_
  repeat (first|refine W.go rfl ?_|refine WL.ev rfl ?_)
  refine (?_:WL _ _ _ _ _ _)
  refine WL.cto (truH _) [1,2] rfl rfl (callF Tryz.func172 rfl rfl) (stAlter_FS key al sp.1 sp.2.2 sp.2.1 hspa) rfl rfl rfl ⟨⟨rfl,rfl,rfl⟩,⟨rfl,rfl,rfl⟩,trivial⟩ rfl rfl rfl rfl ?_
  repeat (first|refine W.go rfl ?_|refine WL.nil ?_|refine WL.ev rfl ?_|refine WL.ar rfl rfl z13i ?_|refine WL.app rfl rfl rfl z13s ?_)
  refine ⟨k+1,⟨by omega,hgood2⟩,by omega,?_⟩
  rw [htk,hput]
  exact (z13u (fun q=>bif Nat.beq q 3 then 9 else q) (by repeat (first|exact trivial|refine ⟨⟨?_,?_,?_⟩,?_⟩|rfl|exact congrArg (fun q=>some (AO.row _ _ q)) hr)) rfl)
 ·have heq:sp.2.1=frcA key al (sp.1,sp.2.2):=by first|exact hif|omega
  have hput:engN key MS S n=⟨al,m,S.out++[(n.1,sp.1,sp.2.2,0)]⟩:=by rw [hen];exact if_pos heq
  have hr:S.out.map eSf++[eSf (n.1,sp.1,sp.2.2,0)]=(S.out++[(n.1,sp.1,sp.2.2,0)]).map eSf:=by simp
  repeat (first|refine W.go rfl ?_|refine WL.ev rfl ?_|refine WL.ar rfl rfl z13i ?_|refine WL.app rfl rfl rfl z13s ?_)
  refine ⟨k+1,⟨by omega,hgood2⟩,by omega,?_⟩
  rw [htk,hput]
  exact (z13u (fun q=>bif Nat.beq q 3 then 9 else q) (by repeat (first|exact trivial|refine ⟨⟨?_,?_,?_⟩,?_⟩|rfl|exact congrArg (fun q=>some (AO.row _ _ q)) hr)) rfl)
end Go.Proofs.YtgelfflighgajaaGreatDoor
