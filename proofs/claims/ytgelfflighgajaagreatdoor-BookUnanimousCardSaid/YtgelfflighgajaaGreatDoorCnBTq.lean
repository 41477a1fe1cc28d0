/- The reading of the majority, program: a vote is cast; the reading with the most votes. -/
import Derived.Test.YtgelfflighgajaaGreatDoorMsfTq
import Derived.Test.YtgelfflighgajaaGreatDoorStfTq
set_option maxHeartbeats 8000000
set_option maxRecDepth 100000
set_option linter.unusedVariables false
set_option linter.unusedSimpArgs false
namespace Go.Proofs.YtgelfflighgajaaGreatDoor
open Go.RowKit
theorem z7o {p : Prop} (h : p := by omega) : p := h
theorem z7k {α : Sort _} {a b : α} (h : a = b := by kernel_rfl) : a = b := h
theorem z7s {p : Prop} (h : p := by first | omega | (simp; done) | (simp; omega)) : p := h
theorem z7l {m n : Nat} (h : m = n := by first | exact List.length_map _ | exact List.length_replicate | rfl) : m = n := h
theorem z7t {C : Cx} {σ σ' : St} (ρ : Nat → Nat) (ht : TrT σ ρ σ'.nk σ'.t := by repeat (first | exact trivial | refine ⟨⟨?_, ?_⟩, ?_⟩ | rfl)) (hm : TrM σ ρ σ'.nk σ'.M := by repeat (first | exact trivial | refine ⟨⟨?_, ?_, ?_⟩, ?_⟩ | rfl)) (hi : (injB ρ (σ'.M.map (·.1)) && pinB ρ σ'.nk C.np) = true := by rfl) : Tr C σ σ' := Tr.ren ρ ht hm hi
theorem z7u {C : Cx} {σ σ' : St} (ρ : Nat → Nat) (hm : TrM σ ρ σ'.nk σ'.M) (hi : (injB ρ (σ'.M.map (·.1)) && pinB ρ σ'.nk C.np) = true) (ht : TrT σ ρ σ'.nk σ'.t := by repeat (first | exact trivial | refine ⟨⟨?_, ?_⟩, ?_⟩ | rfl)) : Tr C σ σ' := Tr.ren ρ ht hm hi
theorem clnStpO (l:List Stp) (h:l.length≤100000):Cto truB 0 Tryz.prog 51 [.ls 5 (l.map eStp)] [] 0 (.sl 0) [(0,.row 100 5 (l.map eStp))] 1:=by
 refine Cto.intro truS Tryz.func51 rfl Tryz.ntmps51 (Nat.le_of_ble_eq_true rfl) rfl fun w0 F0 fp pg hB=>?_
 dsimp only [number,Nat.reduceAdd]
 repeat refine W.go rfl ?_
 refine (?_:WL _ _ _ _ _ _)
 refine WL.nlq rfl rfl fun b hb=>?_
 cases b with
 | true =>
  have e:=hb rfl
  repeat (first|refine W.go rfl ?_|refine WL.nil ?_|refine W.condT rfl ?_)
  refine (?_:W _ _ _ _ _)
  refine W.tr (Tr.nil (t:=2) 100 5 rfl rfl) ?_
  rw [e]
  refine W.tr (σ':=⟨[(2,.sl 0)],[(0,.row 100 5 [])],1⟩) (z7t id) ?_
  exact W.ret (finM rfl rfl rfl rfl rfl)
 | false =>
  repeat (first|refine W.go rfl ?_|refine WL.nil ?_|refine WL.ev rfl ?_|refine WL.app rfl rfl rfl z7s ?_|refine W.condF rfl ?_)
  refine (?_:W _ _ _ _ _)
  refine W.tr (σ':=⟨[(2,.sl 0)],[(0,.row 100 5 (l.map eStp))],1⟩) (z7u (fun q=>bif Nat.beq q 0 then 1 else q) (by repeat (first|exact trivial|refine ⟨⟨?_,?_,?_⟩,?_⟩|rfl|exact congrArg (fun q=>some (AO.row _ _ q)) (by first|rfl|(simp;done)|(simp [eInt];done)|(simp [eLk];done)))) rfl) ?_
  exact W.ret (finM rfl rfl rfl rfl rfl)
def ownK (l:List Ev)(k:Nat):List (List AV):=((tie0 l).take k).map eEvO++(l.drop k).map eEv
theorem ownK_0(l:List Ev):ownK l 0=l.map eEv:=by unfold ownK;simp
theorem ownK_all(l:List Ev):ownK l l.length=(tie0 l).map eEvO:=by
 unfold ownK
 rw [List.drop_length,List.map_nil,List.append_nil,show l.length=(tie0 l).length from(tie0_len l).symm,List.take_length]
theorem ownK_len {l:List Ev} {k:Nat} (h:k≤l.length):(ownK l k).length=l.length:=by
 unfold ownK
 rw [List.length_append,List.length_map,List.length_map,List.length_take,List.length_drop,tie0_len];omega
theorem ownK_at {l:List Ev} {k:Nat} (h:k<l.length):(ownK l k)[k]?=some (eEv l[k]):=by
 have hl:(((tie0 l).take k).map eEvO).length=k:=by rw [List.length_map,List.length_take,tie0_len];omega
 unfold ownK
 rw [List.getElem?_append_right (by omega),hl,Nat.sub_self,List.getElem?_map,List.getElem?_drop,Nat.add_zero,List.getElem?_eq_getElem h];rfl
theorem tie0_get {l:List Ev} {k:Nat} (h:k<l.length):(tie0 l)[k]'(by rw [tie0_len];exact h)=if k=0 then { l[k]with tie:=false } else l[k]:=by
 cases l with
 | nil=>exact absurd h (Nat.not_lt_zero _)
 | cons a r =>
  cases k with
  | zero=>rfl
  | succ k=>rw [if_neg (Nat.succ_ne_zero k)];rfl
theorem ownK_set {l:List Ev} {k:Nat} (h:k<l.length):(ownK l k).set k (eEvO ((tie0 l)[k]'(by rw [tie0_len];exact h)))=ownK l (k+1):=by
 have hl:(((tie0 l).take k).map eEvO).length=k:=by rw [List.length_map,List.length_take,tie0_len];omega
 unfold ownK
 rw [List.set_append_right _ _ (by omega),hl,Nat.sub_self,List.drop_eq_getElem_cons h,List.map_cons,List.set_cons_zero,List.take_succ_eq_append_getElem (by rw [tie0_len];exact h),List.map_append,List.append_assoc]
 rfl
theorem ownK_s {l:List Ev} {k:Nat} (h:k<l.length)(hk:0<k):(ownK l k).set k ((eEv l[k]).set 5 (.ow 100 5 (l[k].stops.map eStp)))=ownK l (k+1):=by
 rw [← ownK_set h,tie0_get h,if_neg (by omega)];rfl
theorem ownK_s0 {l:List Ev} (h:0<l.length):((ownK l 0).set 0 (putL 4 [.sc (.bool false)] (eEv l[0]))).set 0 ((putL 4 [.sc (.bool false)] (eEv l[0])).set 5 (.ow 100 5 (l[0].stops.map eStp)))=ownK l 1:=by
 rw [List.set_set,← ownK_set h,tie0_get h,if_pos rfl];rfl
theorem stlN_at {evs:List Ev} {n k:Nat} (h:n<evs.length):(stlN evs n k)[n]?=some { evs[n]with stops:=(evs[n].stops.take k).map (stlS evs n)++evs[n].stops.drop k }:=by
 rw [List.getElem?_eq_getElem (by rw [stlN_len];exact h)]
 simp only [stlN,List.getElem_mapIdx]
 simp
theorem stlN_set {evs:List Ev} {n k:Nat} (h:n<evs.length):((stlN evs n 0).map eEvO).set n (eEvO { evs[n]with stops:=(evs[n].stops.take k).map (stlS evs n)++evs[n].stops.drop k })=(stlN evs n k).map eEvO:=by
 rw [← List.map_set]
 congr 1
 apply List.ext_getElem (by rw [List.length_set,stlN_len,stlN_len])
 intro i h1 h2
 rw [List.getElem_set]
 simp only [stlN,List.getElem_mapIdx]
 by_cases e:n=i
 ·subst e
  rw [if_pos rfl,if_neg (Nat.lt_irrefl n),if_pos rfl]
 ·rw [if_neg e]
  by_cases e2:i<n
  ·rw [if_pos e2,if_pos e2]
  ·rw [if_neg e2,if_neg (fun h=>e h.symm),if_neg e2,if_neg (fun h=>e h.symm)]
theorem stlN_setE {evs:List Ev} {n k:Nat} (h:n<evs.length):((stlN evs n 0).map eEv).set n (eEv { evs[n] with stops:=(evs[n].stops.take k).map (stlS evs n)++evs[n].stops.drop k })=(stlN evs n k).map eEv:=by
 have:=congrArg (fun l:List (List AV)=>l.map fun r=>r.map (AV.fz 1)) (stlN_set (k:=k) h)
 simp only [List.map_set,eEvO_rows,eEvO_fz] at this
 exact this
def stpK (evs:List Ev)(n k:Nat)(l:List Stp):List Stp:=(l.take k).map (stlS evs n)++l.drop k
theorem stpK_0(evs:List Ev)(n:Nat)(l:List Stp):stpK evs n 0 l=l:=by unfold stpK;simp
theorem stpK_len(evs:List Ev)(n k:Nat)(l:List Stp):(stpK evs n k l).length=l.length:=by
 unfold stpK;rw [List.length_append,List.length_map,List.length_take,List.length_drop];omega
theorem stpK_at {evs:List Ev} {n k:Nat} {l:List Stp} (h:k<l.length):((stpK evs n k l).map eStp)[k]?=some (eStp l[k]):=by
 unfold stpK
 have hl:((l.take k).map (stlS evs n)).length=k:=by rw [List.length_map,List.length_take];omega
 rw [List.getElem?_map,List.getElem?_append_right (by omega),hl,Nat.sub_self,List.getElem?_drop,Nat.add_zero,List.getElem?_eq_getElem h];rfl
theorem stpK_set {evs:List Ev} {n k:Nat} {l:List Stp} (h:k<l.length) {m:Int} (hm:m=min l[k].2.2.2.2 (longestN evs n l[k].1)):((stpK evs n k l).map eStp).set k (putL 4 [.sc (.int .i64 m)] (eStp l[k]))=(stpK evs n (k+1) l).map eStp:=by
 subst hm
 have e:putL 4 [.sc (.int .i64 (min l[k].2.2.2.2 (longestN evs n l[k].1:Int)))] (eStp l[k])=eStp (stlS evs n l[k]):=rfl
 have hl:((l.take k).map (stlS evs n)).length=k:=by rw [List.length_map,List.length_take];omega
 rw [e,← List.map_set]
 congr 1
 unfold stpK
 rw [List.set_append_right _ _ (by omega),hl,Nat.sub_self,List.drop_eq_getElem_cons h,List.set_cons_zero,List.take_succ_eq_append_getElem h,List.map_append,List.append_assoc];rfl
theorem stlN_stops {evs:List Ev} {n k i:Nat} (h:i<evs.length):((stlN evs n k)[i]'(by rw [stlN_len];exact h)).stops.length=evs[i].stops.length:=by
 simp only [stlN,List.getElem_mapIdx]
 split
 ·exact List.length_map _
 ·split
  ·show((evs[i].stops.take k).map _++evs[i].stops.drop k).length=_
   rw [List.length_append,List.length_map,List.length_take,List.length_drop];omega
  ·rfl
theorem settle_G (cs:List (Int×Int×Bool)) (st:List Int) (l:List Ev) (h1:cs.length≤64) (h2:st.length≤64) (hl:l.length≤400) (h20:∀ e∈l,e.stops.length≤20) :
  Cto truB 0 Tryz.prog 84 [.ag [.ls 3 (cs.map eCrs),.ls 1 (st.map eInt),.sl 0]] [(0,.row 36 6 (l.map eEv))] 1 (.tu []) [(0,.rwn 36 6 ((stl l).map eEvO))] 1:=by
 refine Cto.intro truS Tryz.func84 rfl Tryz.ntmps84 (Nat.le_of_ble_eq_true rfl) rfl fun w0 F0 fp pg hB=>?_
 dsimp only [number,Nat.reduceAdd]
 have hml:(l.map eEv).length=l.length:=List.length_map _
 repeat (first|refine W.go rfl ?_|refine WL.ev rfl ?_|refine WL.len rfl rfl z7l ?_)
 refine (?_:W _ _ _ _ _)
 refine W.tr (Tr.widen 0 rfl) ?_
 dsimp only [St.upd]
 rw [← ownK_0]
 refine W.loop (fun k:Nat=>k≤l.length) (fun k=>⟨[(1,.pt 1 0 0),(8,.sc (.int .i64 l.length)),(9,.sc (.int .i64 k))],[(1,.box 28 [.ls 3 (cs.map eCrs),.ls 1 (st.map eInt),.sl 0]),(0,.rwn 36 6 (ownK l k))],2⟩) (fun k=>l.length - k) 0 (by omega) (z7t id) fun k hk=>?_
 have hkl:=ownK_len hk
 by_cases hlt:k < l.length
 ·have hat:=ownK_at hlt
  have h20k:=h20 _ (List.getElem_mem hlt)
  by_cases hz:k=0
  ·subst hz
   repeat (first|refine W.gob rfl ?_|refine WL.nil ?_|refine WL.bt rfl rfl rfl z7o ?_|refine WL.e1 rfl ?_|refine WL.ixs rfl rfl z7s ?_|refine W.condT rfl ?_)
   refine (?_:WL _ _ _ _ _ _)
   refine WL.stW rfl rfl rfl rfl hat (by show 4+1≤6;omega) rfl ?_
   have hs:=ownK_s0 hlt
   have hat2:((ownK l 0).set 0 (putL 4 [.sc (.bool false)] (eEv l[0])))[0]?=some (putL 4 [.sc (.bool false)] (eEv l[0])):=List.getElem?_set_self (by omega)
   have hRl:((ownK l 0).set 0 (putL 4 [.sc (.bool false)] (eEv l[0]))).length=l.length:=by rw [List.length_set];exact hkl
   dsimp only [Int.ofNat_zero,Int.toNat_natCast,Int.toNat_zero]
   obtain ⟨R,hR⟩:∃ z,(ownK l 0).set 0 (putL 4 [.sc (.bool false)] (eEv l[0]))=z:=⟨_,rfl⟩
   rw [hR] at hs hat2 hRl
   first|rw [hR]|(have hR':(ownK l 0).set ((0:Nat):Int).toNat (putL 4 [.sc (.bool false)] (eEv l[0]))=R:=hR;rw [hR'])
   repeat refine WL.nil ?_
   refine (?_:W _ _ _ _ _)
   refine W.of_wa z7k ?_
   refine WA.dt [false,false,false,false,false,false,false,false,false,true,false,false,true] [1] [1,0] 12 z7k z7k z7k ⟨rfl,trivial⟩ ⟨rfl,rfl,trivial⟩ ?_
   refine DTK.st rfl z7k rfl ?_
   refine DTK.st rfl z7k rfl ?_
   refine DTK.st rfl z7k rfl ?_
   refine DTK.st rfl z7k rfl ?_
   refine DTK.st rfl z7k rfl ?_
   refine DTK.st rfl z7k rfl ?_
   refine DTK.ixs rfl z7k rfl ⟨by omega,by omega⟩ ?_
   refine DTK.st rfl z7k rfl ?_
   refine DTK.ldw rfl z7k rfl hat2 rfl rfl ?_
   refine DTK.ct (truH _) [] rfl rfl (callF Tryz.func51 rfl rfl) (clnStpO l[0].stops z7o) rfl rfl rfl trivial rfl rfl rfl rfl ⟨rfl,trivial⟩ (fun _=>⟨rfl,rfl,trivial⟩) ?_
   refine DTK.ixs rfl z7k rfl ⟨by omega,by omega⟩ ?_
   refine DTK.st rfl z7k rfl ?_
   refine DTK.stQ rfl rfl rfl rfl rfl rfl rfl (.inl rfl) rfl rfl hat2 (by show 5 < 6;omega) rfl ⟨rfl,trivial⟩ (fun h=>by cases h) ?_
   refine DTK.nil ?_
   refine W.tr (Tr.close_ 0 rfl rfl rfl hat2 (by show 5 < 6;omega) (hs)) ?_
   dsimp only [St.upd,St.drop,rem,cond,Nat.beq]
   repeat (first|refine W.gob rfl ?_|refine WL.nil ?_|refine WL.e1 rfl ?_|refine WL.ar rfl rfl (by unfold I64;omega) ?_)
   refine ⟨1,by omega,by omega,?_⟩
   exact (z7t id)
  ·have hs:=ownK_s hlt z7o
   repeat (first|refine W.gob rfl ?_|refine WL.nil ?_|refine WL.bt rfl rfl rfl z7o ?_|refine WL.bf rfl rfl rfl z7o ?_|refine WL.e1 rfl ?_|refine W.condT rfl ?_|refine W.condF rfl ?_)
   refine (?_:W _ _ _ _ _)
   refine W.of_wa z7k ?_
   refine WA.dt [false,false,false,false,false,false,false,false,false,true,false,false,true] [1] [1,0] 12 z7k z7k z7k ⟨rfl,trivial⟩ ⟨rfl,rfl,trivial⟩ ?_
   refine DTK.st rfl z7k rfl ?_
   refine DTK.st rfl z7k rfl ?_
   refine DTK.st rfl z7k rfl ?_
   refine DTK.st rfl z7k rfl ?_
   refine DTK.st rfl z7k rfl ?_
   refine DTK.st rfl z7k rfl ?_
   refine DTK.ixs rfl z7k rfl ⟨by omega,by omega⟩ ?_
   refine DTK.st rfl z7k rfl ?_
   refine DTK.ldw rfl z7k rfl hat rfl rfl ?_
   refine DTK.ct (truH _) [] rfl rfl (callF Tryz.func51 rfl rfl) (clnStpO l[k].stops z7o) rfl rfl rfl trivial rfl rfl rfl rfl ⟨rfl,trivial⟩ (fun _=>⟨rfl,rfl,trivial⟩) ?_
   refine DTK.ixs rfl z7k rfl ⟨by omega,by omega⟩ ?_
   refine DTK.st rfl z7k rfl ?_
   refine DTK.stQ rfl rfl rfl rfl rfl rfl rfl (.inl rfl) rfl rfl hat (by show 5 < 6;omega) rfl ⟨rfl,trivial⟩ (fun h=>by cases h) ?_
   refine DTK.nil ?_
   refine W.tr (Tr.close_ 0 rfl rfl rfl hat (by show 5 < 6;omega) (hs)) ?_
   dsimp only [St.upd,St.drop,rem,cond,Nat.beq]
   repeat (first|refine W.gob rfl ?_|refine WL.nil ?_|refine WL.e1 rfl ?_|refine WL.ar rfl rfl (by unfold I64;omega) ?_)
   refine ⟨k+1,by omega,by omega,?_⟩
   exact (z7t id)
 obtain rfl:k=l.length:=by omega
 rw [ownK_all]
 have htl:=tie0_len l
 have ht20:=tie0_20 h20
 have hst:stl l=stlE (tie0 l):=rfl
 rw [hst]
 obtain ⟨E,hE⟩:∃ z,tie0 l=z:=⟨_,rfl⟩
 rw [hE] at htl ht20 ⊢
 clear hkl hlt hk hst
 have hmE:(E.map eEvO).length=E.length:=List.length_map _
 repeat (first|refine W.gob rfl ?_|refine WL.nil ?_|refine WL.bf rfl rfl rfl z7o ?_|refine WL.e1 rfl ?_|refine WL.len rfl rfl z7l ?_|refine W.condF rfl ?_)
 refine (?_:W _ _ _ _ _)
 rw [show E.map eEvO=(stlN E 0 0).map eEvO by rw [stlN_0]]
 refine W.loop (fun n:Nat=>n≤E.length) (fun n=>⟨[(1,.pt 1 0 0),(34,.sc (.int .i64 E.length)),(35,.sc (.int .i64 n))],[(1,.box 28 [.ls 3 (cs.map eCrs),.ls 1 (st.map eInt),.sl 0]),(0,.rwn 36 6 ((stlN E n 0).map eEvO))],2⟩) (fun n=>E.length - n) 0 (by omega) (z7t id) fun n hn=>?_
 have hnl:((stlN E n 0).map eEvO).length=E.length:=by rw [List.length_map,stlN_len]
 by_cases hlt:n < E.length
 rotate_left
 ·obtain rfl:n=E.length:=by omega
  rw [stlN_all]
  repeat (first|refine W.gob rfl ?_|refine WL.nil ?_|refine WL.bf rfl rfl rfl z7o ?_|refine W.condF rfl ?_)
  refine finTr (σ':=⟨[],[(0,.rwn 36 6 ((stlE E).map eEvO))],1⟩) (z7t id) ?_
  exact finMu rfl rfl rfl rfl rfl
 have hsn:(stlN E n 0)[n]?=some E[n]:=by rw [stlN_at hlt];simp
 have hat:((stlN E n 0).map eEvO)[n]?=some (eEvO E[n]):=by rw [List.getElem?_map,hsn];rfl
 have hn20:=ht20 _ (List.getElem_mem hlt)
 have hS20:∀ j k (h:k < (stlN E n j).length),((stlN E n j)[k]'h).stops.length≤20:=fun j k h=>by
  have hk:k < E.length:=by rw [stlN_len] at h;exact h
  have:=stlN_stops (evs:=E) (n:=n) (k:=j) hk
  have h5:=ht20 _ (List.getElem_mem hk)
  omega
 repeat (first|refine W.gob rfl ?_|refine WL.nil ?_|refine WL.bt rfl rfl rfl z7o ?_|refine WL.e1 rfl ?_|refine WL.ixs rfl rfl z7s ?_|refine W.condT rfl ?_)
 refine (?_:WL _ _ _ _ _ _)
 refine WL.tr (Tr.open_ 0 n 5 rfl hat rfl (eStp_own _) rfl) ?_
 dsimp only [St.upd,St.new,Nat.reduceAdd]
 refine (?_:WL _ _ _ _ _ _)
 refine WL.ldQ rfl rfl rfl rfl hat (by show 5 < 6;omega) ?_
 repeat (first|refine W.gob rfl ?_|refine WL.nil ?_|refine WL.e1 rfl ?_|refine WL.len rfl rfl z7l ?_)
 refine (?_:W _ _ _ _ _)
 refine W.loop (fun j:Nat=>j≤E[n].stops.length) (fun j=>⟨[(1,.pt 1 0 0),(3,.sc (.int .i64 n)),(34,.sc (.int .i64 E.length)),(35,.sc (.int .i64 n)),(44,.sc (.int .i64 E[n].stops.length)),(45,.sc (.int .i64 j))],[(1,.box 28 [.ls 3 (cs.map eCrs),.ls 1 (st.map eInt),.sl 0]),(0,.rwo 36 6 ((stlN E n 0).map eEvO) n 5 (.sl 2)),(2,.row 100 5 ((stpK E n j E[n].stops).map eStp))],3⟩) (fun j=>E[n].stops.length - j) 0 (by omega) (z7u (fun q=>q) (by repeat (first|exact trivial|refine ⟨⟨?_,?_,?_⟩,?_⟩|rfl|exact congrArg (fun q=>some (AO.row _ _ q)) (by rw [stpK_0])|exact congrArg (fun q=>some (AO.rwn _ _ q)) (by rw [stpK_0]))) rfl) fun j hj=>?_
 have hjl:((stpK E n j E[n].stops).map eStp).length=E[n].stops.length:=by rw [List.length_map,stpK_len]
 by_cases hjt:j < E[n].stops.length
 ·have hrow:=stpK_at (evs:=E) (n:=n) hjt
  have hLC:=pLong_FS ⟨cs,st,stlN E n j⟩ ⟨h1,h2,by show (stlN E n j).length≤420;rw [stlN_len];omega,hS20 j⟩ n E[n].stops[j].1
  have hLC:Ctr Tryz.prog 144 [.ag [.ls 3 (cs.map eCrs),.ls 1 (st.map eInt),.ls 6 ((stlN E n j).map eEv)],.sc (.int .i64 n),.sc (.int .i64 E[n].stops[j].1)] (.sc (.int .i64 (longestN E n E[n].stops[j].1))):=by
   have h:=hLC
   rw [show longestN (Pce.mk cs st (stlN E n j)).evs n E[n].stops[j].1=longestN E n E[n].stops[j].1 from stlN_long _ _ _ _ _] at h
   exact h
  have hle:(((stlN E n 0).map eEvO).map fun r=>r.map (AV.fz 1)).set n (((eEvO E[n]).map (AV.fz 1)).set 5 (.ls 5 ((stpK E n j E[n].stops).map eStp)))=(stlN E n j).map eEv:=by
   rw [eEvO_rows,eEvO_fz]
   exact stlN_setE hlt
  have hmin:(if (longestN E n E[n].stops[j].1:Int) < E[n].stops[j].2.2.2.2 then (longestN E n E[n].stops[j].1:Int) else E[n].stops[j].2.2.2.2)=min E[n].stops[j].2.2.2.2 (longestN E n E[n].stops[j].1:Int):=by
   rw [Int.min_def];split<;>split<;>omega
  have hset:=stpK_set (evs:=E) (n:=n) hjt rfl
  have hfin:=hset
  repeat (first|refine W.gob rfl ?_|refine WL.nil ?_|refine WL.bt rfl rfl rfl z7o ?_|refine WL.e1 rfl ?_|refine WL.ixs rfl rfl z7s ?_|refine W.condT rfl ?_)
  refine (?_:WL _ _ _ _ _ _)
  refine WL.ldQ rfl rfl rfl rfl hat (by show 5 < 6;omega) ?_
  repeat (first|refine WL.nil ?_|refine WL.e1 rfl ?_|refine WL.ixs rfl rfl z7s ?_)
  refine (?_:W _ _ _ _ _)
  refine W.of_wa z7k ?_
  refine WA.dt [false,false,false,false,false,false,false,false,false,false,false,false,false,false,false,true] [1] [1,0,2] 15 z7k z7k z7k ⟨rfl,trivial⟩ ⟨rfl,rfl,rfl,trivial⟩ ?_
  refine DTK.st rfl z7k rfl ?_
  refine DTK.st rfl z7k rfl ?_
  refine DTK.vl rfl z7k (WV.nch rfl rfl) ?_
  refine DTK.st rfl z7k rfl ?_
  refine DTK.ldr rfl z7k rfl hrow rfl rfl ?_
  refine DTK.st rfl z7k rfl ?_
  refine DTK.st rfl z7k rfl ?_
  refine DTK.st rfl z7k rfl ?_
  refine DTK.vl rfl z7k (WV.nch rfl rfl) ?_
  refine DTK.st rfl z7k rfl ?_
  refine DTK.ldr rfl z7k rfl hrow rfl rfl ?_
  refine DTK.vl rfl z7k (WV.lendX (truH _) rfl (callF Tryz.func144 rfl rfl) rfl (.cons (Lent.ag (.cons (Lent.pu rfl) (.cons (Lent.pu rfl) (.cons (Lent.rwo 1 rfl (Lent.row rfl) (eEvO_shal _) hat (by show 5 < 6;omega) hle) .nil)))) (.cons (Lent.pu rfl) (.cons (Lent.pu rfl) .nil))) truST hLC.g) ?_
  refine DTK.vl rfl z7k (mmV_as rfl hmin) ?_
  refine DTK.vl rfl z7k (WV.nch rfl rfl) ?_
  refine DTK.st rfl z7k rfl ?_
  refine DTK.sto rfl rfl rfl rfl rfl rfl rfl rfl rfl rfl rfl rfl (put_row hrow (by show 4+1≤5;omega) rfl) rfl ⟨rfl,trivial⟩ (fun h=>by cases h) ?_
  refine DTK.nil ?_
  repeat (first|refine W.gob rfl ?_|refine WL.nil ?_|refine WL.e1 rfl ?_|refine WL.ar rfl rfl (by unfold I64;omega) ?_)
  refine ⟨j+1,by omega,by omega,?_⟩
  exact (z7u (fun q=>q) (by repeat (first|exact trivial|refine ⟨⟨?_,?_,?_⟩,?_⟩|rfl|exact congrArg (fun q=>some (AO.row _ _ q)) hfin|exact congrArg (fun q=>some (AO.rwn _ _ q)) hfin)) rfl)
 obtain rfl:j=E[n].stops.length:=by omega
 have hcl:((stlN E n 0).map eEvO).set n ((eEvO E[n]).set 5 (.ow 100 5 ((stpK E n E[n].stops.length E[n].stops).map eStp)))=(stlN E (n+1) 0).map eEvO :=
  (stlN_set (k:=E[n].stops.length) hlt).trans (by rw [stlN_next hlt rfl])
 repeat (first|refine W.gob rfl ?_|refine WL.nil ?_|refine WL.bf rfl rfl rfl z7o ?_|refine WL.e1 rfl ?_|refine WL.ar rfl rfl (by unfold I64;omega) ?_|refine W.condF rfl ?_)
 refine ⟨n+1,by omega,by omega,?_⟩
 refine Tr.trans (Tr.close_ 0 rfl rfl rfl hat (by show 5 < 6;omega) hcl) ?_
 exact (z7t id)
end Go.Proofs.YtgelfflighgajaaGreatDoor
namespace Go.Proofs.YtgelfflighgajaaGreatDoor
open Go.RowKit
def eVt (v:Vt):List AV:=[.sc (.bool v.1.bar),.sc (.int .i64 v.1.val),.sc (.bool v.1.dot),.sc (.bool v.1.three),.sc (.bool v.1.tie),.ls 5 (v.1.stops.map eStp),.sc (.int .i64 v.2)]
theorem eVt_own(l:List Vt):∀ q∈l.map eVt,∀ av∈q,av.own=false:=fun q hq av hav=>by
 obtain⟨s,_,rfl⟩:=List.mem_map.1 hq
 simp only [eVt,List.mem_cons,List.not_mem_nil,or_false]at hav
 rcases hav with rfl|rfl|rfl|rfl|rfl|rfl|rfl<;>rfl
theorem cst1_FS (v:Vt) (e:Ev) (h1:v.1.stops.length≤20) (h2:e.stops.length≤20):Ctr Tryz.prog 82 [.ag (eVt v),.pr (eEv e)] (.sc (.bool (evEq v.1 e))):=by
 have hE:=pEqual_FS v.1 e h1 h2
 refine Ctr.intro Tryz.func82 rfl Tryz.ntmps82 (Nat.le_of_ble_eq_true rfl) (bd_all rfl) fun w0 F0=>?_;dsimp only [St.init,number,Nat.reduceAdd]
 repeat refine W.go rfl ?_
 refine (?_:WL _ _ _ _ _ _)
 refine WL.vl rfl (WV.call rfl (callF Tryz.func79 rfl rfl) rfl rfl hE) ?_
 repeat refine WL.ev rfl ?_
 refine (?_:W _ _ _ _ _)
 exact W.ret (fin1 rfl rfl rfl rfl)
def ixV (l:List Vt)(e:Ev):Int:=if (l.any fun v=>evEq v.1 e)=true then ((l.findIdx (fun v=>evEq v.1 e):Nat):Int)else -1
theorem ixV_at {l:List Vt} {e:Ev} {k:Nat} (hk:k<l.length) (h1:evEq l[k].1 e=true) (h2:∀ i (hi:i<k),evEq (l[i]'(by omega)).1 e=false):ixV l e=k:=by
 have hh:(l.any fun v=>evEq v.1 e)=true:=List.any_eq_true.2 ⟨l[k],List.getElem_mem hk,h1⟩
 unfold ixV
 rw [if_pos hh,(List.findIdx_eq hk).2 ⟨h1,h2⟩]
theorem ixV_no {l:List Vt} {e:Ev} (h:∀ i(hi:i<l.length),evEq l[i].1 e=false):ixV l e=-1:=by
 have hh:(l.any fun v=>evEq v.1 e)=false:=by
  rw [List.any_eq_false]
  intro x hx
  obtain⟨i,hi,rfl⟩:=List.getElem_of_mem hx
  simp [h i hi]
 unfold ixV
 rw [hh];rfl
theorem ixV_or (l:List Vt) (e:Ev):(∃ k,∃ h:k<l.length,ixV l e=(k:Int)∧evEq l[k].1 e=true∧∀ i (hi:i<k),evEq (l[i]'(by omega)).1 e=false)∨(ixV l e=-1∧∀ i (hi:i<l.length),evEq l[i].1 e=false):=by
 cases hh:l.any fun v=>evEq v.1 e with
 | false =>
  have h:∀ i (hi:i<l.length),evEq l[i].1 e=false:=fun i hi=>by
   have:=List.any_eq_false.1 hh l[i] (List.getElem_mem hi)
   simpa using this
  exact .inr ⟨ixV_no h,h⟩
 | true =>
  obtain ⟨x,hx,h1⟩:=List.any_eq_true.1 hh
  have hlt:l.findIdx (fun v=>evEq v.1 e)<l.length:=List.findIdx_lt_length_of_exists ⟨x,hx,h1⟩
  have hg:evEq (l[l.findIdx (fun v=>evEq v.1 e)]'hlt).1 e=true:=List.findIdx_getElem (p:=fun v:Vt=>evEq v.1 e) (w:=hlt)
  have hn:∀ i (hi:i<l.findIdx (fun v=>evEq v.1 e)),evEq (l[i]' z7o).1 e=false:=fun i hi=>by
   have:=List.not_of_lt_findIdx (p:=fun v:Vt=>evEq v.1 e) hi
   simpa using this
  exact .inl ⟨_,hlt,ixV_at hlt hg hn,hg,hn⟩
theorem idxV_FS (l:List Vt) (e:Ev) (hl:l.length≤100000) (h20:∀ v∈l,v.1.stops.length≤20) (he:e.stops.length≤20):Ctr Tryz.prog 81 [.ls 7 (l.map eVt),.fn 82 [.pr (eEv e)]] (.sc (.int .i64 (ixV l e))):=by
 refine Ctr.intro Tryz.func81 rfl Tryz.ntmps81 (Nat.le_of_ble_eq_true rfl) (bd_all rfl) fun w0 F0=>?_;dsimp only [St.init,number,Nat.reduceAdd]
 repeat (first|refine W.go rfl ?_|refine WL.ev rfl ?_|refine WL.len rfl rfl z7l ?_)
 refine (?_:W _ _ _ _ _)
 refine W.loop (fun k:Nat=>k≤l.length∧∀ i (hi:i < k) (h:i < l.length),evEq l[i].1 e=false) (fun k=>⟨[(0,.ls 7 (l.map eVt)),(1,.fn 82 [.pr (eEv e)]),(7,.sc (.int .i64 l.length)),(8,.sc (.int .i64 k))],[],0⟩) (fun k=>l.length - k) 0 ⟨by omega,fun i hi=>by omega⟩ (z7t id) fun k hk=>?_
 obtain ⟨hk,hno⟩:=hk
 by_cases hlt:k < l.length
 ·repeat (first|refine W.gob rfl ?_|refine WL.nil ?_|refine WL.bt rfl rfl rfl z7o ?_|refine WL.e1 rfl ?_|refine WL.idx rfl rfl z7o (by first|exact map_at z7o|exact map_atZ z7o z7o) ?_|refine W.condT rfl ?_)
  refine (?_:WL _ _ _ _ _ _)
  refine WL.vl rfl (WV.callV (truH _) rfl (callF Tryz.func82 rfl rfl) rfl rfl rfl rfl rfl (cst1_FS l[k] e (h20 _ (List.getElem_mem hlt)) he).g) ?_
  cases hb:evEq l[k].1 e with
  | true =>
   rw [ixV_at hlt hb fun i hi=>hno i hi (by omega)]
   repeat (first|refine W.gob rfl ?_|refine WL.nil ?_|refine WL.e1 rfl ?_|refine W.condT rfl ?_)
   refine (?_:W _ _ _ _ _)
   exact W.ret (fin1 rfl rfl rfl rfl)
  | false =>
   repeat (first|refine W.gob rfl ?_|refine WL.nil ?_|refine WL.e1 rfl ?_|refine WL.ar rfl rfl (by unfold I64;omega) ?_|refine W.condF rfl ?_)
   exact ⟨k+1,⟨by omega,fun i hi h=>by
    by_cases e:i=k
    ·subst e;exact hb
    ·exact hno i z7o h⟩,by omega,(z7t id)⟩
 ·rw [ixV_no fun i hi=>hno i (by omega) hi]
  repeat (first|refine W.gob rfl ?_|refine WL.nil ?_|refine WL.bf rfl rfl rfl z7o ?_|refine WL.e1 rfl ?_|refine W.condF rfl ?_)
  refine (?_:W _ _ _ _ _)
  exact W.ret (fin1 rfl rfl rfl rfl)
def eVL (l:List Vt):List AV:=[.ow 144 7 (l.map eVt)]
theorem eVL_at {V:List (List Vt)} {i:Nat} (h:i<V.length):(V.map eVL)[i]?=some (eVL V[i]):=by rw [List.getElem?_map,List.getElem?_eq_getElem h];rfl
theorem eVL_set {V:List (List Vt)} {i:Nat} (l:List Vt) {l0:List Vt}:(V.map eVL).set i ((eVL l0).set 0 (.ow 144 7 (l.map eVt)))=(V.set i l).map eVL:=by rw [List.map_set];rfl
theorem vt_put {l:List Vt} {k:Nat} (h:k<l.length):(l.map eVt).set k (putL 6 [.sc (.int .i64 (l[k].2+1))] (eVt l[k]))=(l.set k (l[k].1,l[k].2+1)).map eVt:=by rw [List.map_set];rfl
theorem cast_G (V:List (List Vt)) (i:Nat) (e:Ev) (hi:i < V.length) (hV:V.length≤1000) (hl:V[i].length≤100000) (hc:∀ v∈V[i],v.1.stops.length≤20∧0≤v.2∧v.2≤100000) (he:e.stops.length≤20) :
  Cto truB 0 Tryz.prog 80 [.sc (.int .i64 (i:Int)),.ag (eEv e),.pt 0 0 0] [(0,.box 140 [.sl 1]),(1,.rwn 142 1 (V.map eVL))] 2 (.tu []) [(0,.box 140 [.sl 1]),(1,.rwn 142 1 ((V.set i (cstV V[i] e)).map eVL))] 2:=by
 have hat:=eVL_at hi
 have hVl:(V.map eVL).length=V.length:=List.length_map _
 have hC:=idxV_FS V[i] e z7o (fun v hv=>(hc v hv).1) he
 have hset:=fun l:List Vt=>eVL_set (V:=V) (i:=i) (l0:=V[i]) l
 obtain ⟨L,hL⟩:∃ z,V[i]=z:=⟨_,rfl⟩
 rw [hL] at hat hl hc hC hset ⊢
 have hLl:(L.map eVt).length=L.length:=List.length_map _
 refine Cto.intro truS Tryz.func80 rfl Tryz.ntmps80 (Nat.le_of_ble_eq_true rfl) rfl fun w0 F0 fp pg hB=>?_
 dsimp only [number,Nat.reduceAdd]
 repeat (first|refine W.gob rfl ?_|refine WL.nil ?_|refine WL.e1 rfl ?_|refine WL.ixs rfl rfl z7s ?_)
 refine (?_:WL _ _ _ _ _ _)
 refine WL.tr (Tr.open_ 1 i 0 rfl hat rfl (eVt_own _) rfl) ?_
 dsimp only [St.upd,St.new,Nat.reduceAdd]
 refine WL.ldQ rfl rfl rfl rfl hat (by show 0 < 1;omega) ?_
 refine (?_:WL _ _ _ _ _ _)
 refine WL.vl rfl (WV.mkf rfl rfl) ?_
 refine WL.vl rfl (WV.lendV (truH _) rfl (callF Tryz.func81 rfl rfl) rfl rfl rfl rfl rfl rfl truST hC.g) ?_
 rcases ixV_or L e with ⟨k,hk,hx,hy,hn⟩|⟨hx,hn⟩
 ·rw [hx]
  have hcv:=cstV_at hk hy hn
  have hrow:(L.map eVt)[k]?=some (eVt L[k]):=by rw [List.getElem?_map,List.getElem?_eq_getElem hk];rfl
  have hck:=hc _ (List.getElem_mem hk)
  have hput:=vt_put hk
  have hcl:=hset (cstV L e)
  rw [hcv] at hcl ⊢
  rw [← hput] at hcl
  repeat (first|refine W.gob rfl ?_|refine WL.nil ?_|refine WL.bf rfl rfl rfl z7o ?_|refine WL.e1 rfl ?_|refine WL.ixs rfl rfl z7s ?_|refine W.condF rfl ?_)
  refine (?_:WL _ _ _ _ _ _)
  refine WL.ldQ rfl rfl rfl rfl hat (by show 0 < 1;omega) ?_
  repeat (first|refine WL.e1 rfl ?_|refine WL.ixs rfl rfl z7s ?_)
  refine (?_:WL _ _ _ _ _ _)
  refine WL.ldr rfl rfl hrow rfl rfl ?_
  repeat (first|refine WL.e1 rfl ?_|refine WL.ar rfl rfl (by unfold I64;omega) ?_|refine WL.ixs rfl rfl z7s ?_)
  refine (?_:WL _ _ _ _ _ _)
  refine WL.sto rfl rfl rfl rfl hrow (by show 6+1≤7;omega) ?_
  repeat refine WL.nil ?_
  refine finTr (Tr.close_ 1 rfl rfl rfl hat (by show 0 < 1;omega) hcl) ?_
  refine finTr (σ':=⟨[],[(0,.box 140 [.sl 1]),(1,.rwn 142 1 ((V.set i (L.set k (L[k].1,L[k].2+1))).map eVL))],2⟩) (z7t id) ?_
  exact finMu rfl rfl rfl rfl rfl
 ·rw [hx]
  have hcv:=cstV_no hn
  have hcl:=hset (cstV L e)
  rw [hcv] at hcl ⊢
  have hmm:(L++[(e,1)]).map eVt=L.map eVt++[eVt (e,1)]:=by rw [List.map_append];rfl
  rw [hmm] at hcl
  repeat (first|refine W.gob rfl ?_|refine WL.nil ?_|refine WL.bt rfl rfl rfl z7o ?_|refine WL.e1 rfl ?_|refine W.condT rfl ?_)
  refine (?_:W _ _ _ _ _)
  refine W.of_wa z7k ?_
  refine WA.dt [false,false,false,false,false,false,false,false,true,true,false,true] [0,2] [0,2,1] 11 z7k z7k z7k ⟨rfl,rfl,trivial⟩ ⟨rfl,rfl,rfl,trivial⟩ ?_
  refine DTK.st rfl z7k rfl ?_
  refine DTK.st rfl z7k rfl ?_
  refine DTK.st rfl z7k rfl ?_
  refine DTK.st rfl z7k rfl ?_
  refine DTK.ixs rfl z7k rfl ⟨by omega,by omega⟩ ?_
  refine DTK.ldQ rfl z7k rfl rfl rfl hat (by show 0 < 1;omega) ?_
  refine DTK.st rfl z7k rfl ?_
  refine DTK.st rfl z7k rfl ?_
  refine DTK.bd rfl rfl rfl ⟨rfl,rfl,trivial⟩ (fun _=>⟨rfl,rfl,rfl,trivial⟩) ?_
  refine DTK.ap rfl rfl (by show (L.map eVt).length+1≤1000000000;omega) ⟨rfl,rfl,trivial⟩ (fun _=>⟨rfl,rfl,rfl,trivial⟩) ?_
  refine DTK.ixs rfl z7k rfl ⟨by omega,by omega⟩ ?_
  refine DTK.stQ rfl rfl rfl rfl rfl rfl rfl (.inr ⟨_,rfl⟩) rfl rfl hat (by show 0 < 1;omega) rfl ⟨rfl,rfl,trivial⟩ (fun h=>by cases h) ?_
  refine DTK.nil ?_
  refine finTr (Tr.close_ 1 rfl rfl rfl hat (by show 0 < 1;omega) hcl) ?_
  refine finTr (σ':=⟨[],[(0,.box 140 [.sl 1]),(1,.rwn 142 1 ((V.set i (L++[(e,1)])).map eVL))],2⟩) (z7t id) ?_
  exact finMu rfl rfl rfl rfl rfl
end Go.Proofs.YtgelfflighgajaaGreatDoor
