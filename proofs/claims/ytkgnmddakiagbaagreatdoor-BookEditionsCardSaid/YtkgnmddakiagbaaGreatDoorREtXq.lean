/- The reference's Edition. -/
import Derived.Test.YtkgnmddakiagbaaGreatDoorRFoXq
import Derived.Test.YtkgnmddakiagbaaGreatDoorEdiXq
set_option linter.unusedVariables false
set_option linter.unusedSimpArgs false
namespace Go.Proofs.YtkgnmddakiagbaaGreatDoor
open Go.RowKit
set_option maxHeartbeats 8000000
set_option maxRecDepth 100000
theorem joinTail_snoc (sep:List UInt8)(l:List (List UInt8))(x:List UInt8):Lib.joinTail sep (l++[x])=Lib.joinTail sep l++(sep++x):=by
 simp [Lib.joinTail]
theorem join_snoc (sep x:List UInt8)(l:List (List UInt8))(h:l≠[]):Lib.join (l++[x]) sep=Lib.join l sep++sep++x:=by
 cases l with
 | nil=>exact absurd rfl h
 | cons y r=>rw [List.cons_append,Lib.join_cons,Lib.join_cons,joinTail_snoc];simp
theorem sfT_ne {x:Sf} (h:SfOk x):sfT x≠[]:=by
 obtain⟨z,hz⟩:=Int.eq_ofNat_of_zero_le h.1.1
 have h6:=h.1.2
 have hl:(cut ltrs x.2.1 (x.2.1+1)).length=1:=by
  unfold cut ltrs
  rw [hz]at h6 ⊢
  simp only [List.length_take,List.length_drop,List.length_cons,List.length_nil,Int.toNat_natCast]
  have:((z:Int)+1).toNat=z+1:=by omega
  rw [this];omega
 intro he
 unfold sfT at he
 have:=List.append_eq_nil_iff.1 he
 have:=List.append_eq_nil_iff.1 this.1
 rw [this.1]at hl
 cases hl
def stfT (L:List Sf)(i:Int)(k:Nat):List UInt8:=Lib.join ((atK i (L.take k)).map sfT) [43]
theorem stfT_no {L:List Sf} {i:Int} {k:Nat} (h:k<L.length) (hx:¬ L[k].1=i):stfT L i (k+1)=stfT L i k:=by
 unfold stfT atK
 rw [List.take_succ_eq_append_getElem h,List.filter_append,List.filter_cons_of_neg (p:=fun x:Sf=>decide (x.1=i)) (by simpa using hx)]
 simp
theorem stfT_yes {L:List Sf} {i:Int} {k:Nat} (h:k<L.length) (hx:L[k].1=i) (hok:∀ x∈L,SfOk x) :
  stfT L i (k+1)=(if stfT L i k=[] then stfT L i k else stfT L i k++[43])++sfT L[k]:=by
 unfold stfT atK
 rw [List.take_succ_eq_append_getElem h,List.filter_append,List.filter_cons_of_pos (p:=fun x:Sf=>decide (x.1=i)) (by simpa using hx),List.filter_nil,List.map_append,List.map_cons,List.map_nil]
 cases hq:((L.take k).filter fun x=>decide (x.1=i)) with
 | nil=>simp [Lib.join_nil,Lib.join_one]
 | cons y r =>
  have hy:SfOk y:=hok y (List.mem_of_mem_take (List.mem_filter.1 (by rw [hq];simp:y∈(L.take k).filter fun x=>decide (x.1=i))).1)
  have hne:Lib.join (((y::r).map sfT)) [43]≠[]:=by
   rw [List.map_cons,Lib.join_cons]
   intro he
   exact sfT_ne hy (List.append_eq_nil_iff.1 he).1
  rw [if_neg hne,join_snoc _ _ _ (by simp)]
theorem stfT_len {L:List Sf} (hok:∀ x∈L,SfOk x) (i:Int) (k:Nat):(stfT L i k).length≤23*L.length:=by
 have h1:=join_len [43] (by simp) ((atK i (L.take k)).map sfT) (fun t ht=>by
  obtain ⟨x,hx,rfl⟩:=List.mem_map.1 ht
  exact sfT_len (hok x (List.mem_of_mem_take (List.mem_filter.1 hx).1)))
 have h2:((atK i (L.take k)).map sfT).length≤L.length:=by
  rw [List.length_map]
  have:=List.length_filter_le (fun x:Sf=>decide (x.1=i)) (L.take k)
  rw [List.length_take]at this
  show (List.filter _ _).length≤_
  omega
 unfold stfT
 omega
theorem rStaff_FS (p:Pce) (L:List Sf) (hok:∀ x∈L,SfOk x∧-1≤x.2.2.1∧x.2.2.1≤9) (hl:L.length≤8400) (i:Nat) (hi:i < p.evs.length) (hn:p.evs.length≤1000) :
  Ctr Tryz.prog 83 [ePce p,.sc (.int .i64 i),.ls 4 (L.map eSf)] (.sc (.string (bs (stfR L i p.evs[i])))):=by
 have hok1:∀ x∈L,SfOk x:=fun x hx=>(hok x hx).1
 unfold stfR
 cases ht:p.evs[i].tie with
 | true =>
  rw [if_pos rfl]
  refine Ctr.intro Tryz.func83 rfl Tryz.ntmps83 (Nat.le_of_ble_eq_true rfl) (bd_all rfl) fun w0 F0=>?_;dsimp only [St.init,number,Nat.reduceAdd]
  repeat (first|refine W.gob rfl ?_|refine WL.nil ?_|refine WL.bt rfl rfl rfl (by omega) ?_|refine WL.bf rfl rfl rfl (by omega) ?_|refine WL.nt rfl rfl rfl (by omega) ?_|refine WL.nf rfl rfl rfl (by omega) ?_|refine WL.e1 rfl ?_|refine WL.ar rfl rfl (by unfold I64;omega) ?_|refine WL.len rfl rfl (by first|exact List.length_map _|exact List.length_replicate|rfl) ?_|refine WL.idx rfl rfl (by omega) (by first|exact map_at (by omega)|exact map_atZ (by omega) (by omega)) ?_|refine WL.cat rfl rfl (by first|omega|(simp;done)|(simp;omega)) ?_|refine W.condT rfl ?_|refine W.condF rfl ?_)
  (first|refine (?_:W _ _ _ _ _)|refine (?_:WL _ _ _ _ _ _)|skip)
  try dsimp only [St.put,Nat.reduceAdd]
  rw [ht]
  repeat (first|refine W.gob rfl ?_|refine WL.nil ?_|refine WL.bt rfl rfl rfl (by omega) ?_|refine WL.bf rfl rfl rfl (by omega) ?_|refine WL.nt rfl rfl rfl (by omega) ?_|refine WL.nf rfl rfl rfl (by omega) ?_|refine WL.e1 rfl ?_|refine WL.ar rfl rfl (by unfold I64;omega) ?_|refine WL.len rfl rfl (by first|exact List.length_map _|exact List.length_replicate|rfl) ?_|refine WL.idx rfl rfl (by omega) (by first|exact map_at (by omega)|exact map_atZ (by omega) (by omega)) ?_|refine WL.cat rfl rfl (by first|omega|(simp;done)|(simp;omega)) ?_|refine W.condT rfl ?_|refine W.condF rfl ?_)
  (first|refine (?_:W _ _ _ _ _)|refine (?_:WL _ _ _ _ _ _)|skip)
  try dsimp only [St.put,Nat.reduceAdd]
  exact W.ret (fin1 rfl rfl rfl rfl)
 | false =>
  rw [if_neg (by decide)]
  have hR:=rest_FS p.evs[i]
  cases hr:restB p.evs[i] with
  | true =>
   rw [if_pos rfl]
   rw [hr] at hR
   refine Ctr.intro Tryz.func83 rfl Tryz.ntmps83 (Nat.le_of_ble_eq_true rfl) (bd_all rfl) fun w0 F0=>?_;dsimp only [St.init,number,Nat.reduceAdd]
   repeat (first|refine W.gob rfl ?_|refine WL.nil ?_|refine WL.bt rfl rfl rfl (by omega) ?_|refine WL.bf rfl rfl rfl (by omega) ?_|refine WL.nt rfl rfl rfl (by omega) ?_|refine WL.nf rfl rfl rfl (by omega) ?_|refine WL.e1 rfl ?_|refine WL.ar rfl rfl (by unfold I64;omega) ?_|refine WL.len rfl rfl (by first|exact List.length_map _|exact List.length_replicate|rfl) ?_|refine WL.idx rfl rfl (by omega) (by first|exact map_at (by omega)|exact map_atZ (by omega) (by omega)) ?_|refine WL.cat rfl rfl (by first|omega|(simp;done)|(simp;omega)) ?_|refine W.condT rfl ?_|refine W.condF rfl ?_)
   (first|refine (?_:W _ _ _ _ _)|refine (?_:WL _ _ _ _ _ _)|skip)
   try dsimp only [St.put,Nat.reduceAdd]
   rw [ht]
   repeat (first|refine W.gob rfl ?_|refine WL.nil ?_|refine WL.bt rfl rfl rfl (by omega) ?_|refine WL.bf rfl rfl rfl (by omega) ?_|refine WL.nt rfl rfl rfl (by omega) ?_|refine WL.nf rfl rfl rfl (by omega) ?_|refine WL.e1 rfl ?_|refine WL.ar rfl rfl (by unfold I64;omega) ?_|refine WL.len rfl rfl (by first|exact List.length_map _|exact List.length_replicate|rfl) ?_|refine WL.idx rfl rfl (by omega) (by first|exact map_at (by omega)|exact map_atZ (by omega) (by omega)) ?_|refine WL.cat rfl rfl (by first|omega|(simp;done)|(simp;omega)) ?_|refine W.condT rfl ?_|refine W.condF rfl ?_)
   (first|refine (?_:W _ _ _ _ _)|refine (?_:WL _ _ _ _ _ _)|skip)
   try dsimp only [St.put,Nat.reduceAdd]
   refine WL.vl rfl (WV.call rfl (callF Tryz.func130 rfl rfl) rfl rfl hR) ?_
   repeat (first|refine W.gob rfl ?_|refine WL.nil ?_|refine WL.bt rfl rfl rfl (by omega) ?_|refine WL.bf rfl rfl rfl (by omega) ?_|refine WL.nt rfl rfl rfl (by omega) ?_|refine WL.nf rfl rfl rfl (by omega) ?_|refine WL.e1 rfl ?_|refine WL.ar rfl rfl (by unfold I64;omega) ?_|refine WL.len rfl rfl (by first|exact List.length_map _|exact List.length_replicate|rfl) ?_|refine WL.idx rfl rfl (by omega) (by first|exact map_at (by omega)|exact map_atZ (by omega) (by omega)) ?_|refine WL.cat rfl rfl (by first|omega|(simp;done)|(simp;omega)) ?_|refine W.condT rfl ?_|refine W.condF rfl ?_)
   (first|refine (?_:W _ _ _ _ _)|refine (?_:WL _ _ _ _ _ _)|skip)
   try dsimp only [St.put,Nat.reduceAdd]
   exact W.ret (fin1 rfl rfl rfl rfl)
  | false =>
   rw [if_neg (by decide)]
   rw [hr] at hR
   refine Ctr.intro Tryz.func83 rfl Tryz.ntmps83 (Nat.le_of_ble_eq_true rfl) (bd_all rfl) fun w0 F0=>?_;dsimp only [St.init,number,Nat.reduceAdd]
   repeat (first|refine W.gob rfl ?_|refine WL.nil ?_|refine WL.bt rfl rfl rfl (by omega) ?_|refine WL.bf rfl rfl rfl (by omega) ?_|refine WL.nt rfl rfl rfl (by omega) ?_|refine WL.nf rfl rfl rfl (by omega) ?_|refine WL.e1 rfl ?_|refine WL.ar rfl rfl (by unfold I64;omega) ?_|refine WL.len rfl rfl (by first|exact List.length_map _|exact List.length_replicate|rfl) ?_|refine WL.idx rfl rfl (by omega) (by first|exact map_at (by omega)|exact map_atZ (by omega) (by omega)) ?_|refine WL.cat rfl rfl (by first|omega|(simp;done)|(simp;omega)) ?_|refine W.condT rfl ?_|refine W.condF rfl ?_)
   (first|refine (?_:W _ _ _ _ _)|refine (?_:WL _ _ _ _ _ _)|skip)
   try dsimp only [St.put,Nat.reduceAdd]
   rw [ht]
   repeat (first|refine W.gob rfl ?_|refine WL.nil ?_|refine WL.bt rfl rfl rfl (by omega) ?_|refine WL.bf rfl rfl rfl (by omega) ?_|refine WL.nt rfl rfl rfl (by omega) ?_|refine WL.nf rfl rfl rfl (by omega) ?_|refine WL.e1 rfl ?_|refine WL.ar rfl rfl (by unfold I64;omega) ?_|refine WL.len rfl rfl (by first|exact List.length_map _|exact List.length_replicate|rfl) ?_|refine WL.idx rfl rfl (by omega) (by first|exact map_at (by omega)|exact map_atZ (by omega) (by omega)) ?_|refine WL.cat rfl rfl (by first|omega|(simp;done)|(simp;omega)) ?_|refine W.condT rfl ?_|refine W.condF rfl ?_)
   (first|refine (?_:W _ _ _ _ _)|refine (?_:WL _ _ _ _ _ _)|skip)
   try dsimp only [St.put,Nat.reduceAdd]
   refine WL.vl rfl (WV.call rfl (callF Tryz.func130 rfl rfl) rfl rfl hR) ?_
   repeat (first|refine W.gob rfl ?_|refine WL.nil ?_|refine WL.bt rfl rfl rfl (by omega) ?_|refine WL.bf rfl rfl rfl (by omega) ?_|refine WL.nt rfl rfl rfl (by omega) ?_|refine WL.nf rfl rfl rfl (by omega) ?_|refine WL.e1 rfl ?_|refine WL.ar rfl rfl (by unfold I64;omega) ?_|refine WL.len rfl rfl (by first|exact List.length_map _|exact List.length_replicate|rfl) ?_|refine WL.idx rfl rfl (by omega) (by first|exact map_at (by omega)|exact map_atZ (by omega) (by omega)) ?_|refine WL.cat rfl rfl (by first|omega|(simp;done)|(simp;omega)) ?_|refine W.condT rfl ?_|refine W.condF rfl ?_)
   (first|refine (?_:W _ _ _ _ _)|refine (?_:WL _ _ _ _ _ _)|skip)
   try dsimp only [St.put,Nat.reduceAdd]
   refine W.loop (fun k:Nat=>k≤L.length) (fun k=>⟨[(1,.sc (.int .i64 i)),(2,.ls 4 (L.map eSf)),(7,.sc (.string (bs (stfT L i k)))),(8,.sc (.int .i64 k))],[],1⟩) (fun k=>L.length - k) 0 (by omega) (Tr.ren id (by repeat (first|exact trivial|refine ⟨⟨?_,?_⟩,?_⟩|rfl)) (by repeat (first|exact trivial|refine ⟨⟨?_,?_,?_⟩,?_⟩|rfl)) rfl) fun k hk=>?_
   have hTl:=stfT_len hok1 i k
   by_cases hlt:k < L.length
   rotate_left
   ·obtain rfl:k=L.length:=by omega
    have:stfT L i L.length=Lib.join ((atK i L).map sfT) [43]:=by unfold stfT;rw [List.take_length]
    rw [← this]
    repeat (first|refine W.gob rfl ?_|refine WL.nil ?_|refine WL.bt rfl rfl rfl (by omega) ?_|refine WL.bf rfl rfl rfl (by omega) ?_|refine WL.nt rfl rfl rfl (by omega) ?_|refine WL.nf rfl rfl rfl (by omega) ?_|refine WL.e1 rfl ?_|refine WL.ar rfl rfl (by unfold I64;omega) ?_|refine WL.len rfl rfl (by first|exact List.length_map _|exact List.length_replicate|rfl) ?_|refine WL.idx rfl rfl (by omega) (by first|exact map_at (by omega)|exact map_atZ (by omega) (by omega)) ?_|refine WL.cat rfl rfl (by first|omega|(simp;done)|(simp;omega)) ?_|refine W.condT rfl ?_|refine W.condF rfl ?_)
    (first|refine (?_:W _ _ _ _ _)|refine (?_:WL _ _ _ _ _ _)|skip)
    try dsimp only [St.put,Nat.reduceAdd]
    exact W.ret (fin1 rfl rfl rfl rfl)
   by_cases hx:L[k].1=i
   rotate_left
   ·have hno:=stfT_no hlt hx
    repeat (first|refine W.gob rfl ?_|refine WL.nil ?_|refine WL.bt rfl rfl rfl (by omega) ?_|refine WL.bf rfl rfl rfl (by omega) ?_|refine WL.nt rfl rfl rfl (by omega) ?_|refine WL.nf rfl rfl rfl (by omega) ?_|refine WL.e1 rfl ?_|refine WL.ar rfl rfl (by unfold I64;omega) ?_|refine WL.len rfl rfl (by first|exact List.length_map _|exact List.length_replicate|rfl) ?_|refine WL.idx rfl rfl (by omega) (by first|exact map_at (by omega)|exact map_atZ (by omega) (by omega)) ?_|refine WL.cat rfl rfl (by first|omega|(simp;done)|(simp;omega)) ?_|refine W.condT rfl ?_|refine W.condF rfl ?_)
    (first|refine (?_:W _ _ _ _ _)|refine (?_:WL _ _ _ _ _ _)|skip)
    try dsimp only [St.put,Nat.reduceAdd]
    refine ⟨k+1,by omega,by omega,?_⟩
    rw [hno]
    exact (Tr.ren id (by repeat (first|exact trivial|refine ⟨⟨?_,?_⟩,?_⟩|rfl)) (by repeat (first|exact trivial|refine ⟨⟨?_,?_,?_⟩,?_⟩|rfl)) rfl)
   have hyes:=stfT_yes hlt hx hok1
   obtain ⟨⟨⟨h1,h2⟩,hI,h3,h4⟩,h5,h6⟩:=hok L[k] (List.getElem_mem hlt)
   have hD:=rDec_FS L[k].2.2.1 (by omega)
   have hdl:=itoa_len (n:=L[k].2.2.1) (by omega)
   have hsT:sfT L[k]=cut ltrs L[k].2.1 (L[k].2.1+1)++sgX L[k].2.2.2++Lib.itoa L[k].2.2.1:=rfl
   have hl1:(cut [67,68,69,70,71,65,66] L[k].2.1 (L[k].2.1+1)).length≤1:=cut_ltr (l:=L[k].2.1)
   have hcb:0≤L[k].2.1∧L[k].2.1≤L[k].2.1+1∧L[k].2.1+1≤(ltrs.length:Int):=⟨h1,by omega,by simp [ltrs];omega⟩
   have hsl:(sgX L[k].2.2.2).length≤1:=by unfold sgX;split<;>(try split)<;>(try split)<;>simp
   have hat:([[AV.sc (.string (bs []))],[AV.sc (.string (bs [35]))],[AV.sc (.string (bs [98]))],[AV.sc (.string (bs [61]))]]:List (List AV))[L[k].2.2.2.toNat]?=some [AV.sc (.string (bs (sgX L[k].2.2.2)))]:=by
    have:L[k].2.2.2=0∨L[k].2.2.2=1∨L[k].2.2.2=2∨L[k].2.2.2=3:=by omega
    rcases this with h|h|h|h<;>rw [h]<;>rfl
   rw [hsT] at hyes
   obtain ⟨T,hT⟩:∃ T,stfT L i k=T:=⟨_,rfl⟩
   obtain ⟨io,hio⟩:∃ z,Lib.itoa L[k].2.2.1=z:=⟨_,rfl⟩
   obtain ⟨P,hP⟩:∃ P,(if T=[] then T else T++[43])=P:=⟨_,rfl⟩
   rw [hT,hP,hio] at hyes
   rw [hT] at hTl ⊢
   rw [hio] at hD hdl
   have hPl:P.length≤200000:=by
    rw [← hP]
    split
    ·omega
    ·rw [List.length_append,List.length_singleton];omega
   repeat (first|refine W.go rfl ?_|refine WL.nil ?_|refine WL.ev rfl ?_|refine WL.ar rfl rfl (by unfold I64;omega) ?_|refine WL.len rfl rfl (by first|exact List.length_map _|exact List.length_replicate|rfl) ?_|refine WL.idx rfl rfl (by omega) (by first|exact map_at (by omega)|exact map_atZ (by omega) (by omega)) ?_|refine WL.cat rfl rfl (by first|omega|(simp;done)|(simp;omega)) ?_|refine W.condT rfl ?_|refine W.condF rfl ?_)
   (first|refine (?_:W _ _ _ _ _)|refine (?_:WL _ _ _ _ _ _)|skip)
   try dsimp only [St.put,Nat.reduceAdd]
   (refine W.cond rfl (fun hif=>?_) (fun hif=>?_)<;>(try simp only [decide_eq_true_eq,decide_eq_false_iff_not,Int.not_lt,Int.not_le,Bool.not_eq_true',Bool.not_eq_false'] at hif))
   rotate_left
   ·omega
   repeat (first|refine W.gob rfl ?_|refine WL.nil ?_|refine WL.bt rfl rfl rfl (by omega) ?_|refine WL.bf rfl rfl rfl (by omega) ?_|refine WL.nt rfl rfl rfl (by omega) ?_|refine WL.nf rfl rfl rfl (by omega) ?_|refine WL.e1 rfl ?_|refine WL.ar rfl rfl (by unfold I64;omega) ?_|refine WL.len rfl rfl (by first|exact List.length_map _|exact List.length_replicate|rfl) ?_|refine WL.idx rfl rfl (by omega) (by first|exact map_at (by omega)|exact map_atZ (by omega) (by omega)) ?_|refine WL.cat rfl rfl (by first|omega|(simp;done)|(simp;omega)) ?_|refine W.condT rfl ?_|refine W.condF rfl ?_)
   (first|refine (?_:W _ _ _ _ _)|refine (?_:WL _ _ _ _ _ _)|skip)
   try dsimp only [St.put,Nat.reduceAdd]
   refine W.meet ⟨[(1,.sc (.int .i64 i)),(2,.ls 4 (L.map eSf)),(7,.sc (.string (bs P))),(8,.sc (.int .i64 k))],[],1⟩ ?_ ?_
   ·by_cases hT0:T=[]
    ·have hPe:P=T:=by rw [← hP,if_pos hT0]
     have hb:(T == [])=true:=by rw [hT0];rfl
     rw [hb,hPe]
     repeat (first|refine W.gob rfl ?_|refine WL.nil ?_|refine WL.bt rfl rfl rfl (by omega) ?_|refine WL.bf rfl rfl rfl (by omega) ?_|refine WL.nt rfl rfl rfl (by omega) ?_|refine WL.nf rfl rfl rfl (by omega) ?_|refine WL.e1 rfl ?_|refine WL.ar rfl rfl (by unfold I64;omega) ?_|refine WL.len rfl rfl (by first|exact List.length_map _|exact List.length_replicate|rfl) ?_|refine WL.idx rfl rfl (by omega) (by first|exact map_at (by omega)|exact map_atZ (by omega) (by omega)) ?_|refine WL.cat rfl rfl (by first|omega|(simp;done)|(simp;omega)) ?_|refine W.condT rfl ?_|refine W.condF rfl ?_)
     (first|refine (?_:W _ _ _ _ _)|refine (?_:WL _ _ _ _ _ _)|skip)
     try dsimp only [St.put,Nat.reduceAdd]
     refine (?_:Tr _ _ _)
     exact (Tr.ren id (by repeat (first|exact trivial|refine ⟨⟨?_,?_⟩,?_⟩|rfl)) (by repeat (first|exact trivial|refine ⟨⟨?_,?_,?_⟩,?_⟩|rfl)) rfl)
    ·have hPe:P=T++[43]:=by rw [← hP,if_neg hT0]
     have hb:(T == [])=false:=by simpa using hT0
     rw [hb,hPe]
     repeat (first|refine W.gob rfl ?_|refine WL.nil ?_|refine WL.bt rfl rfl rfl (by omega) ?_|refine WL.bf rfl rfl rfl (by omega) ?_|refine WL.nt rfl rfl rfl (by omega) ?_|refine WL.nf rfl rfl rfl (by omega) ?_|refine WL.e1 rfl ?_|refine WL.ar rfl rfl (by unfold I64;omega) ?_|refine WL.len rfl rfl (by first|exact List.length_map _|exact List.length_replicate|rfl) ?_|refine WL.idx rfl rfl (by omega) (by first|exact map_at (by omega)|exact map_atZ (by omega) (by omega)) ?_|refine WL.cat rfl rfl (by first|omega|(simp;done)|(simp;omega)) ?_|refine W.condT rfl ?_|refine W.condF rfl ?_)
     (first|refine (?_:W _ _ _ _ _)|refine (?_:WL _ _ _ _ _ _)|skip)
     try dsimp only [St.put,Nat.reduceAdd]
     refine (?_:Tr _ _ _)
     exact (Tr.ren id (by repeat (first|exact trivial|refine ⟨⟨?_,?_⟩,?_⟩|rfl)) (by repeat (first|exact trivial|refine ⟨⟨?_,?_,?_⟩,?_⟩|rfl)) rfl)
   refine W.dm3 [false,false,false,false,false,false,false,false,false,false,false,false,false,false,true,false,false,false,false,false,true,true,false,false,false,false,false,false,false,false,false] [] (by kernel_rfl) (by kernel_rfl) (by kernel_rfl) (by repeat constructor) ?_
   repeat (first|refine DMK.st rfl rfl ?_|refine DMK.ar rfl rfl (by unfold I64;omega) ?_|refine DMK.idx rfl rfl (by omega) (by first|exact map_at (by omega)|exact map_atZ (by omega) (by omega)) ?_|refine DMK.bd rfl rfl rfl (by repeat constructor) ?_|refine DMK.nil ?_)
   refine DMK.vl rfl (cutV_of rfl hcb) ?_
   obtain ⟨C,hC⟩:∃ C,cut [67,68,69,70,71,65,66] L[k].2.1 (L[k].2.1+1)=C:=⟨_,rfl⟩
   have hC2:cut ltrs L[k].2.1 (L[k].2.1+1)=C:=hC
   obtain ⟨S,hS⟩:∃ S,sgX L[k].2.2.2=S:=⟨_,rfl⟩
   rw [hC2,hS] at hyes
   rw [hC] at hl1
   rw [hS] at hsl hat
   simp only [hC]
   have hl2:(P++C).length≤200001:=by rw [List.length_append];omega
   have hl3:(P++C++S).length≤200002:=by rw [List.length_append];omega
   refine DMK.vl rfl (WV.cat rfl rfl rfl (by omega)) ?_
   repeat (first|refine DMK.st rfl rfl ?_|refine DMK.ar rfl rfl (by unfold I64;omega) ?_|refine DMK.idx rfl rfl (by omega) (by first|exact map_at (by omega)|exact map_atZ (by omega) (by omega)) ?_|refine DMK.bd rfl rfl rfl (by repeat constructor) ?_|refine DMK.nil ?_)
   refine DMK.ixs1 rfl trivial rfl ⟨by omega,by show L[k].2.2.2 < (4:Int);omega⟩ ?_
   refine DMK.ldr1 rfl trivial rfl hat rfl rfl ?_
   refine DMK.vl rfl (WV.cat rfl rfl rfl (by omega)) ?_
   repeat (first|refine DMK.st rfl rfl ?_|refine DMK.ar rfl rfl (by unfold I64;omega) ?_|refine DMK.idx rfl rfl (by omega) (by first|exact map_at (by omega)|exact map_atZ (by omega) (by omega)) ?_|refine DMK.bd rfl rfl rfl (by repeat constructor) ?_|refine DMK.nil ?_)
   refine DMK.vl rfl (WV.call rfl (callF Tryz.func128 rfl rfl) rfl rfl hD) ?_
   refine DMK.vl rfl (WV.cat rfl rfl rfl (by omega)) ?_
   repeat (first|refine DMK.st rfl rfl ?_|refine DMK.ar rfl rfl (by unfold I64;omega) ?_|refine DMK.idx rfl rfl (by omega) (by first|exact map_at (by omega)|exact map_atZ (by omega) (by omega)) ?_|refine DMK.bd rfl rfl rfl (by repeat constructor) ?_|refine DMK.nil ?_)
   repeat (first|refine W.go rfl ?_|refine WL.nil ?_|refine WL.ev rfl ?_|refine WL.ar rfl rfl (by unfold I64;omega) ?_|refine WL.len rfl rfl (by first|exact List.length_map _|exact List.length_replicate|rfl) ?_|refine WL.idx rfl rfl (by omega) (by first|exact map_at (by omega)|exact map_atZ (by omega) (by omega)) ?_|refine WL.cat rfl rfl (by first|omega|(simp;done)|(simp;omega)) ?_|refine W.condT rfl ?_|refine W.condF rfl ?_)
   (first|refine (?_:W _ _ _ _ _)|refine (?_:WL _ _ _ _ _ _)|skip)
   try dsimp only [St.put,Nat.reduceAdd]
   refine ⟨k+1,by omega,by omega,?_⟩
   rw [hyes,← List.append_assoc,← List.append_assoc]
   exact (Tr.ren id (by repeat (first|exact trivial|refine ⟨⟨?_,?_⟩,?_⟩|rfl)) (by repeat (first|exact trivial|refine ⟨⟨?_,?_,?_⟩,?_⟩|rfl)) rfl)
end Go.Proofs.YtkgnmddakiagbaaGreatDoor
namespace Go.Proofs.YtkgnmddakiagbaaGreatDoor
open Go.RowKit
set_option maxHeartbeats 8000000
set_option maxRecDepth 100000
theorem spV_oct {q key:Int} (h:spX q key=0):-1≤(spV q key).2.2∧(spV q key).2.2≤9:=by
 have h1:=(spX_of h).1
 unfold sndX at h1
 split at h1
 ·rename_i h2
  exact(sndOk_of h2).1.2.2
 ·cases h1
theorem refE_oct {st:List Int} {key:Int}:∀ (L:List Nt)(out:List Sf),(∀ n∈L,spX n.2.2.1 key=0)→(∀ x∈out,-1≤x.2.2.1∧x.2.2.1≤9)→∀ x∈refE st key out L,-1≤x.2.2.1∧x.2.2.1≤9
 | [],out,_,h=>h
 | n::r,out,hx,h=>by
  refine refE_oct r _ (fun m hm=>hx m (by simp [hm])) fun x hx2=>?_
  rcases List.mem_append.1 hx2 with hx2|hx2
  ·exact h x hx2
  ·rw [List.mem_singleton] at hx2
   rw [hx2]
   exact spV_oct (hx n (by simp))
theorem engL_oct {p:Pce} {key:Int} (hx:engX p key=0):∀ x∈engL p key,-1≤x.2.2.1∧x.2.2.1≤9:=by
 obtain⟨e,hall⟩:=engL_ref hx
 rw [e]
 exact refE_oct _ [] hall fun x h=>by cases h
theorem onsAt_mono (evs:List Ev) {a:Nat}:∀ {b:Nat},a≤b→onsAt evs a≤onsAt evs b
 | 0,h=>by rw [show a=0 by omega];exact Int.le_refl _
 | b+1,h=>by
  by_cases e:a=b+1
  ·rw [e];exact Int.le_refl _
  ·have ih:=onsAt_mono evs (show a≤b by omega)
   have:=frc_le 0 (evs.take (b+1)) ⟨by decide,by decide⟩
   show _≤onsAt evs b+frc 0 (evs.take (b+1))
   omega
theorem cntS_pos {evs:List Ev} {n k:Nat} (hk:k<n):1≤cntS k (fstL (mea evs n)):=by
 obtain ⟨m,rfl⟩:∃ m,n=m+1:=⟨n-1,by omega⟩
 obtain ⟨x,r,h1,h2⟩:=mea_head evs m
 unfold cntS
 rw [h1]
 have:(fstL (x::r)).filter (fun y=>decide (y≤(k:Int)))=x.1::(fstL r).filter (fun y=>decide (y≤(k:Int))):=List.filter_cons_of_pos (p:=fun y:Int=>decide (y≤(k:Int))) (by simp;omega)
 rw [this];simp
theorem edB_le {s:Int} {p:Pce} (hs:1≤s∧s≤4) (hO:PcOk p) (h0:pceE p=0) {key:Int} (hx:engX p key=0):∀ k,k≤p.evs.length→(edB s p (mea p.evs p.evs.length) (engL p key) k).length≤1300000*k
 | 0,_=>by simp [edB]
 | k+1,h=>by
  have ih:=edB_le hs hO h0 hx k (by omega)
  obtain ⟨_,hsf,hsl⟩:=engL_ok hO hx
  have hlt:k<p.evs.length:=by omega
  have hc:=colS_len hs hO h0 k hlt
  have hm:mAt (mea p.evs p.evs.length) (k+1)≤1000000000:=by
   rw [mAt_cnt (mea_asc p.evs p.evs.length).1 k]
   have h1:=cntS_le k (fstL (mea p.evs p.evs.length))
   have h2:=mea_length p.evs p.evs.length
   have h3:=hO.n3
   have h4:(fstL (mea p.evs p.evs.length)).length=(mea p.evs p.evs.length).length:=by simp [fstL]
   omega
  have hI:I64 (sinK p.evs (mea p.evs p.evs.length) k):=by
   have h3:=hO.n3
   unfold sinK
   have a:=onsAt_le p.evs k
   have hb:fstK (mea p.evs p.evs.length) k≤420:=by
    unfold fstK
    cases hq:(mea p.evs p.evs.length)[mAt (mea p.evs p.evs.length) (k+1)-1]? with
    | none=>simp
    | some x =>
     have:=(mea_bd p.evs p.evs.length x (List.mem_of_getElem? hq)).1
     simp;omega
   have c:=onsAt_le p.evs (fstK (mea p.evs p.evs.length) k)
   unfold I64;omega
  have hl:=edR_len hsf hsl k p.evs[k] hc hm hI
  show (edB s p (mea p.evs p.evs.length) (engL p key) k++edN s p (mea p.evs p.evs.length) (engL p key) k).length≤_
  rw [edN_at hlt,List.length_append]
  omega
theorem rEdition_FS (s:Int) (p:Pce) (hO:PcOk p) (key:Int):Ctr Tryz.prog 25 [ePce p,.sc (.int .i64 key),.sc (.int .u8 s)] (.tu [.sc (.string (bs (edT s p key))),.sc (.int .i64 (edX s p key))]):=by
 have hn3:=hO.n3
 have hKn:=known_FS s
 by_cases hs:1≤s∧s≤4
 rotate_left
 ·rw [(ed_sys hs).1,(ed_sys hs).2]
  rw [decide_eq_false hs] at hKn
  refine Ctr.intro Tryz.func25 rfl Tryz.ntmps25 (Nat.le_of_ble_eq_true rfl) (bd_all rfl) fun w0 F0=>?_;dsimp only [St.init,number,Nat.reduceAdd]
  repeat (first|refine W.go rfl ?_|refine WL.nil ?_|refine WL.ev rfl ?_|refine WL.ar rfl rfl (by unfold I64;omega) ?_|refine WL.len rfl rfl (by first|exact List.length_map _|exact List.length_replicate|rfl) ?_|refine W.condT rfl ?_|refine W.condF rfl ?_)
  (first|refine (?_:W _ _ _ _ _)|refine (?_:WL _ _ _ _ _ _)|skip)
  try dsimp only [St.put,Nat.reduceAdd]
  refine WL.vl rfl (WV.call rfl (callF Tryz.func77 rfl rfl) rfl rfl hKn) ?_
  repeat (first|refine W.gob rfl ?_|refine WL.nil ?_|refine WL.bt rfl rfl rfl (by omega) ?_|refine WL.bf rfl rfl rfl (by omega) ?_|refine WL.nt rfl rfl rfl (by omega) ?_|refine WL.nf rfl rfl rfl (by omega) ?_|refine WL.e1 rfl ?_|refine WL.ar rfl rfl (by unfold I64;omega) ?_|refine WL.len rfl rfl (by first|exact List.length_map _|exact List.length_replicate|rfl) ?_|refine W.condT rfl ?_|refine W.condF rfl ?_)
  (first|refine (?_:W _ _ _ _ _)|refine (?_:WL _ _ _ _ _ _)|skip)
  try dsimp only [St.put,Nat.reduceAdd]
  exact W.ret (fin2 rfl rfl rfl rfl rfl rfl rfl)
 rw [decide_eq_true hs] at hKn
 have hE:=rEngrave_FS p hO key
 by_cases hx:engX p key=0
 rotate_left
 ·rw [(ed_eng hs hx).1,(ed_eng hs hx).2]
  obtain ⟨E,hEq⟩:∃ E,engX p key=E:=⟨_,rfl⟩
  rw [hEq] at hx hE ⊢
  refine Ctr.intro Tryz.func25 rfl Tryz.ntmps25 (Nat.le_of_ble_eq_true rfl) (bd_all rfl) fun w0 F0=>?_;dsimp only [St.init,number,Nat.reduceAdd]
  repeat (first|refine W.go rfl ?_|refine WL.nil ?_|refine WL.ev rfl ?_|refine WL.ar rfl rfl (by unfold I64;omega) ?_|refine WL.len rfl rfl (by first|exact List.length_map _|exact List.length_replicate|rfl) ?_|refine W.condT rfl ?_|refine W.condF rfl ?_)
  (first|refine (?_:W _ _ _ _ _)|refine (?_:WL _ _ _ _ _ _)|skip)
  try dsimp only [St.put,Nat.reduceAdd]
  refine WL.vl rfl (WV.call rfl (callF Tryz.func77 rfl rfl) rfl rfl hKn) ?_
  repeat (first|refine W.gob rfl ?_|refine WL.nil ?_|refine WL.bt rfl rfl rfl (by omega) ?_|refine WL.bf rfl rfl rfl (by omega) ?_|refine WL.nt rfl rfl rfl (by omega) ?_|refine WL.nf rfl rfl rfl (by omega) ?_|refine WL.e1 rfl ?_|refine WL.ar rfl rfl (by unfold I64;omega) ?_|refine WL.len rfl rfl (by first|exact List.length_map _|exact List.length_replicate|rfl) ?_|refine W.condT rfl ?_|refine W.condF rfl ?_)
  (first|refine (?_:W _ _ _ _ _)|refine (?_:WL _ _ _ _ _ _)|skip)
  try dsimp only [St.put,Nat.reduceAdd]
  refine WL.vl rfl (WV.call rfl (callF Tryz.func22 rfl rfl) rfl rfl hE) ?_
  repeat (first|refine W.gob rfl ?_|refine WL.nil ?_|refine WL.bt rfl rfl rfl (by omega) ?_|refine WL.bf rfl rfl rfl (by omega) ?_|refine WL.nt rfl rfl rfl (by omega) ?_|refine WL.nf rfl rfl rfl (by omega) ?_|refine WL.e1 rfl ?_|refine WL.ar rfl rfl (by unfold I64;omega) ?_|refine WL.len rfl rfl (by first|exact List.length_map _|exact List.length_replicate|rfl) ?_|refine W.condT rfl ?_|refine W.condF rfl ?_)
  (first|refine (?_:W _ _ _ _ _)|refine (?_:WL _ _ _ _ _ _)|skip)
  try dsimp only [St.put,Nat.reduceAdd]
  exact W.ret (fin2 rfl rfl rfl rfl rfl rfl rfl)
 obtain ⟨h0,hsf,hsl⟩:=engL_ok hO hx
 have hlE:=(lks_ok hs h0).2
 have hlR:=(lks_ok hs h0).1
 have hc:=rCan_FS s p hO
 rw [hlE] at hc
 rw [hx] at hE
 by_cases hl:lksR s p=[]
 rotate_left
 ·rw [(ed_no hs hx hl).1,(ed_no hs hx hl).2]
  have hb:((0:Int) == 0 && ((lksR s p).length:Int) == 0)=false:=by
   have:(lksR s p).length≠0:=fun h=>hl (List.eq_nil_of_length_eq_zero h)
   simp;omega
  rw [hb] at hc
  refine Ctr.intro Tryz.func25 rfl Tryz.ntmps25 (Nat.le_of_ble_eq_true rfl) (bd_all rfl) fun w0 F0=>?_;dsimp only [St.init,number,Nat.reduceAdd]
  repeat (first|refine W.go rfl ?_|refine WL.nil ?_|refine WL.ev rfl ?_|refine WL.ar rfl rfl (by unfold I64;omega) ?_|refine WL.len rfl rfl (by first|exact List.length_map _|exact List.length_replicate|rfl) ?_|refine W.condT rfl ?_|refine W.condF rfl ?_)
  (first|refine (?_:W _ _ _ _ _)|refine (?_:WL _ _ _ _ _ _)|skip)
  try dsimp only [St.put,Nat.reduceAdd]
  refine WL.vl rfl (WV.call rfl (callF Tryz.func77 rfl rfl) rfl rfl hKn) ?_
  repeat (first|refine W.gob rfl ?_|refine WL.nil ?_|refine WL.bt rfl rfl rfl (by omega) ?_|refine WL.bf rfl rfl rfl (by omega) ?_|refine WL.nt rfl rfl rfl (by omega) ?_|refine WL.nf rfl rfl rfl (by omega) ?_|refine WL.e1 rfl ?_|refine WL.ar rfl rfl (by unfold I64;omega) ?_|refine WL.len rfl rfl (by first|exact List.length_map _|exact List.length_replicate|rfl) ?_|refine W.condT rfl ?_|refine W.condF rfl ?_)
  (first|refine (?_:W _ _ _ _ _)|refine (?_:WL _ _ _ _ _ _)|skip)
  try dsimp only [St.put,Nat.reduceAdd]
  refine WL.vl rfl (WV.call rfl (callF Tryz.func22 rfl rfl) rfl rfl hE) ?_
  repeat (first|refine W.gob rfl ?_|refine WL.nil ?_|refine WL.bt rfl rfl rfl (by omega) ?_|refine WL.bf rfl rfl rfl (by omega) ?_|refine WL.nt rfl rfl rfl (by omega) ?_|refine WL.nf rfl rfl rfl (by omega) ?_|refine WL.e1 rfl ?_|refine WL.ar rfl rfl (by unfold I64;omega) ?_|refine WL.len rfl rfl (by first|exact List.length_map _|exact List.length_replicate|rfl) ?_|refine W.condT rfl ?_|refine W.condF rfl ?_)
  (first|refine (?_:W _ _ _ _ _)|refine (?_:WL _ _ _ _ _ _)|skip)
  try dsimp only [St.put,Nat.reduceAdd]
  refine WL.vl rfl (WV.call rfl (callF Tryz.func78 rfl rfl) rfl rfl hc) ?_
  repeat (first|refine W.gob rfl ?_|refine WL.nil ?_|refine WL.bt rfl rfl rfl (by omega) ?_|refine WL.bf rfl rfl rfl (by omega) ?_|refine WL.nt rfl rfl rfl (by omega) ?_|refine WL.nf rfl rfl rfl (by omega) ?_|refine WL.e1 rfl ?_|refine WL.ar rfl rfl (by unfold I64;omega) ?_|refine WL.len rfl rfl (by first|exact List.length_map _|exact List.length_replicate|rfl) ?_|refine W.condT rfl ?_|refine W.condF rfl ?_)
  (first|refine (?_:W _ _ _ _ _)|refine (?_:WL _ _ _ _ _ _)|skip)
  try dsimp only [St.put,Nat.reduceAdd]
  exact W.ret (fin2 rfl rfl rfl rfl rfl rfl rfl)
 rw [(ed_ok hs hx hl).1,(ed_ok hs hx hl).2]
 have hb:((0:Int) == 0 && ((lksR s p).length:Int) == 0)=true:=by rw [hl];rfl
 rw [hb] at hc
 have hTi:=rTimes_FS p hO h0
 have hSt:=rStarts_FS p hO h0
 have hol:=onsL_length p.evs p.evs.length
 have hml:=mea_length p.evs p.evs.length
 have hfl:(fstL (mea p.evs p.evs.length)).length=(mea p.evs p.evs.length).length:=by simp [fstL]
 have hnil:∀ i (h:i < p.evs.length),lackE s p i p.evs[i]=[]:=fun i h=>lksTo_none p.evs.length (Nat.le_refl _) (by rw [← hlR];exact hl) i h h
 have hBl:=edB_le hs hO h0 hx
 have hoct:=engL_oct hx
 have hStf:=fun k hk=>rStaff_FS p (engL p key) (fun x hx2=>⟨hsf x hx2,hoct x hx2⟩) hsl k hk (by omega)
 have hevT:=fun k hk=>evT_stf hx h0 k hk
 refine Ctr.intro Tryz.func25 rfl Tryz.ntmps25 (Nat.le_of_ble_eq_true rfl) (bd_all rfl) fun w0 F0=>?_;dsimp only [St.init,number,Nat.reduceAdd]
 repeat (first|refine W.go rfl ?_|refine WL.nil ?_|refine WL.ev rfl ?_|refine WL.ar rfl rfl (by unfold I64;omega) ?_|refine WL.len rfl rfl (by first|exact List.length_map _|exact List.length_replicate|rfl) ?_|refine W.condT rfl ?_|refine W.condF rfl ?_)
 (first|refine (?_:W _ _ _ _ _)|refine (?_:WL _ _ _ _ _ _)|skip)
 try dsimp only [St.put,Nat.reduceAdd]
 refine WL.vl rfl (WV.call rfl (callF Tryz.func77 rfl rfl) rfl rfl hKn) ?_
 repeat (first|refine W.gob rfl ?_|refine WL.nil ?_|refine WL.bt rfl rfl rfl (by omega) ?_|refine WL.bf rfl rfl rfl (by omega) ?_|refine WL.nt rfl rfl rfl (by omega) ?_|refine WL.nf rfl rfl rfl (by omega) ?_|refine WL.e1 rfl ?_|refine WL.ar rfl rfl (by unfold I64;omega) ?_|refine WL.len rfl rfl (by first|exact List.length_map _|exact List.length_replicate|rfl) ?_|refine W.condT rfl ?_|refine W.condF rfl ?_)
 (first|refine (?_:W _ _ _ _ _)|refine (?_:WL _ _ _ _ _ _)|skip)
 try dsimp only [St.put,Nat.reduceAdd]
 refine WL.vl rfl (WV.call rfl (callF Tryz.func22 rfl rfl) rfl rfl hE) ?_
 repeat (first|refine W.gob rfl ?_|refine WL.nil ?_|refine WL.bt rfl rfl rfl (by omega) ?_|refine WL.bf rfl rfl rfl (by omega) ?_|refine WL.nt rfl rfl rfl (by omega) ?_|refine WL.nf rfl rfl rfl (by omega) ?_|refine WL.e1 rfl ?_|refine WL.ar rfl rfl (by unfold I64;omega) ?_|refine WL.len rfl rfl (by first|exact List.length_map _|exact List.length_replicate|rfl) ?_|refine W.condT rfl ?_|refine W.condF rfl ?_)
 (first|refine (?_:W _ _ _ _ _)|refine (?_:WL _ _ _ _ _ _)|skip)
 try dsimp only [St.put,Nat.reduceAdd]
 refine WL.vl rfl (WV.call rfl (callF Tryz.func78 rfl rfl) rfl rfl hc) ?_
 repeat (first|refine W.gob rfl ?_|refine WL.nil ?_|refine WL.bt rfl rfl rfl (by omega) ?_|refine WL.bf rfl rfl rfl (by omega) ?_|refine WL.nt rfl rfl rfl (by omega) ?_|refine WL.nf rfl rfl rfl (by omega) ?_|refine WL.e1 rfl ?_|refine WL.ar rfl rfl (by unfold I64;omega) ?_|refine WL.len rfl rfl (by first|exact List.length_map _|exact List.length_replicate|rfl) ?_|refine W.condT rfl ?_|refine W.condF rfl ?_)
 (first|refine (?_:W _ _ _ _ _)|refine (?_:WL _ _ _ _ _ _)|skip)
 try dsimp only [St.put,Nat.reduceAdd]
 refine WL.vl rfl (WV.call rfl (callF Tryz.func79 rfl rfl) rfl rfl hTi) ?_
 repeat (first|refine W.gob rfl ?_|refine WL.nil ?_|refine WL.bt rfl rfl rfl (by omega) ?_|refine WL.bf rfl rfl rfl (by omega) ?_|refine WL.nt rfl rfl rfl (by omega) ?_|refine WL.nf rfl rfl rfl (by omega) ?_|refine WL.e1 rfl ?_|refine WL.ar rfl rfl (by unfold I64;omega) ?_|refine WL.len rfl rfl (by first|exact List.length_map _|exact List.length_replicate|rfl) ?_|refine W.condT rfl ?_|refine W.condF rfl ?_)
 (first|refine (?_:W _ _ _ _ _)|refine (?_:WL _ _ _ _ _ _)|skip)
 try dsimp only [St.put,Nat.reduceAdd]
 refine WL.vl rfl (WV.call rfl (callF Tryz.func68 rfl rfl) rfl rfl hSt) ?_
 repeat (first|refine W.gob rfl ?_|refine WL.nil ?_|refine WL.bt rfl rfl rfl (by omega) ?_|refine WL.bf rfl rfl rfl (by omega) ?_|refine WL.nt rfl rfl rfl (by omega) ?_|refine WL.nf rfl rfl rfl (by omega) ?_|refine WL.e1 rfl ?_|refine WL.ar rfl rfl (by unfold I64;omega) ?_|refine WL.len rfl rfl (by first|exact List.length_map _|exact List.length_replicate|rfl) ?_|refine W.condT rfl ?_|refine W.condF rfl ?_)
 (first|refine (?_:W _ _ _ _ _)|refine (?_:WL _ _ _ _ _ _)|skip)
 try dsimp only [St.put,Nat.reduceAdd]
 refine W.loop (fun k:Nat=>k≤p.evs.length) (fun k=>⟨[(2,.sc (.int .u8 s)),(3,.pt 0 0 0),(8,.ls 4 ((engL p key).map eSf)),(10,.ls 1 ((onsL p.evs p.evs.length).map eInt)),(11,.ls 1 ((fstL (mea p.evs p.evs.length)).map eInt)),(12,.sc (.string (bs (edB s p (mea p.evs p.evs.length) (engL p key) k)))),(13,.sc (.int .i64 k))],[(0,.box 29 (ePce p).cells)],1⟩) (fun k=>p.evs.length - k) 0 (by omega) (Tr.ren id (by repeat (first|exact trivial|refine ⟨⟨?_,?_⟩,?_⟩|rfl)) (by repeat (first|exact trivial|refine ⟨⟨?_,?_,?_⟩,?_⟩|rfl)) rfl) fun k hk=>?_
 have hBk:=hBl k hk
 by_cases hlt:k < p.evs.length
 rotate_left
 ·obtain rfl:k=p.evs.length:=by omega
  repeat (first|refine W.gob rfl ?_|refine WL.nil ?_|refine WL.bt rfl rfl rfl (by omega) ?_|refine WL.bf rfl rfl rfl (by omega) ?_|refine WL.nt rfl rfl rfl (by omega) ?_|refine WL.nf rfl rfl rfl (by omega) ?_|refine WL.e1 rfl ?_|refine WL.ar rfl rfl (by unfold I64;omega) ?_|refine WL.len rfl rfl (by first|exact List.length_map _|exact List.length_replicate|rfl) ?_|refine W.condT rfl ?_|refine W.condF rfl ?_)
  (first|refine (?_:W _ _ _ _ _)|refine (?_:WL _ _ _ _ _ _)|skip)
  try dsimp only [St.put,Nat.reduceAdd]
  exact W.ret (fin2 rfl rfl rfl rfl rfl rfl rfl)
 have hm1:=cntS_pos (evs:=p.evs) hlt
 have hmA:=mAt_cnt (mea_asc p.evs p.evs.length).1 k
 have hMe:=rMeasure_FS (fstL (mea p.evs p.evs.length)) (by omega) k
 have hcl:=rColumn_FS s p hO k
 have hcx:=colX_ok hs (fun h=>h h0) hlt (hnil k hlt)
 rw [hcx.1,hcx.2] at hcl
 have hcL:=colS_len hs hO h0 k hlt
 have hN:=edN_at (s:=s) (p:=p) (MS:=mea p.evs p.evs.length) (L:=engL p key) hlt
 have hBs:edB s p (mea p.evs p.evs.length) (engL p key) (k+1)=edB s p (mea p.evs p.evs.length) (engL p key) k++edN s p (mea p.evs p.evs.length) (engL p key) k:=rfl
 have hmc:=cntS_le k (fstL (mea p.evs p.evs.length))
 obtain ⟨m,hm⟩:∃ m,cntS k (fstL (mea p.evs p.evs.length))=m:=⟨_,rfl⟩
 rw [hm] at hm1 hmA hMe hmc
 have hmi:m - 1 < (mea p.evs p.evs.length).length:=by omega
 obtain ⟨x,hxm⟩:∃ x,(mea p.evs p.evs.length)[m - 1]=x:=⟨_,rfl⟩
 have hxb:=(mea_bd p.evs p.evs.length x (by rw [← hxm];exact List.getElem_mem hmi)).1
 have hfst:fstK (mea p.evs p.evs.length) k=x.1.toNat:=by unfold fstK;rw [hmA,List.getElem?_eq_getElem hmi,hxm];rfl
 have hsin:sinK p.evs (mea p.evs p.evs.length) k=onsAt p.evs k - onsAt p.evs x.1.toNat:=by unfold sinK;rw [hfst]
 have hR:edN s p (mea p.evs p.evs.length) (engL p key) k=Lib.itoa (m:Nat)++[58]++Lib.itoa (onsAt p.evs k - onsAt p.evs x.1.toNat)++[32]++stfR (engL p key) k p.evs[k]++[32,59,32]++colS s p k p.evs[k]++[10]:=by
  rw [hN];unfold edR;rw [hmA,hsin,hevT k hlt]
 have hst2:(fstL (mea p.evs p.evs.length))[((m:Int) - 1).toNat]'(by omega)=x.1:=by
  have:((m:Int) - 1).toNat=m - 1:=by omega
  simp only [this,fstL,List.getElem_map,hxm]
 have hok:(onsL p.evs p.evs.length)[k]'(by omega)=onsAt p.evs k:=onsL_get (by omega) _
 have hox:(onsL p.evs p.evs.length)[x.1.toNat]'(by omega)=onsAt p.evs x.1.toNat:=onsL_get (by omega) _
 have hoK:=onsAt_le p.evs k
 have hoF:=onsAt_le p.evs x.1.toNat
 have hxk:x.1≤(k:Int):=by
  have hx2:x∈(mea p.evs p.evs.length).take m:=by
   have:((mea p.evs p.evs.length).take m)[m - 1]'(by rw [List.length_take];omega)=x:=by rw [List.getElem_take];exact hxm
   rw [← this];exact List.getElem_mem _
  rw [← hm] at hx2
  exact cnt_take (mea_asc p.evs p.evs.length).1 x hx2
 have hmono:=onsAt_mono p.evs (show x.1.toNat≤k by omega)
 have hD1:=rDcm_FS (m:Nat) ⟨by omega,by omega⟩
 have hD2:=rDcm_FS (onsAt p.evs k - onsAt p.evs x.1.toNat) ⟨by omega,by omega⟩
 have hl1:=itoa_len (n:=(m:Nat)) (by omega)
 have hl2:=itoa_len (n:=onsAt p.evs k - onsAt p.evs x.1.toNat) (by omega)
 have hevl:=evT_len hsf hsl k p.evs[k]
 rw [hevT k hlt] at hevl
 have hSk:=hStf k hlt
 have hq0:∀ h,(onsL p.evs p.evs.length)[k]'h=onsAt p.evs k:=fun h=>hok
 repeat (first|refine W.gob rfl ?_|refine WL.nil ?_|refine WL.bt rfl rfl rfl (by omega) ?_|refine WL.bf rfl rfl rfl (by omega) ?_|refine WL.nt rfl rfl rfl (by omega) ?_|refine WL.nf rfl rfl rfl (by omega) ?_|refine WL.e1 rfl ?_|refine WL.ar rfl rfl (by unfold I64;omega) ?_|refine WL.len rfl rfl (by first|exact List.length_map _|exact List.length_replicate|rfl) ?_|refine W.condT rfl ?_|refine W.condF rfl ?_)
 (first|refine (?_:W _ _ _ _ _)|refine (?_:WL _ _ _ _ _ _)|skip)
 try dsimp only [St.put,Nat.reduceAdd]
 refine WL.vl rfl (WV.call rfl (callF Tryz.func80 rfl rfl) rfl rfl hMe) ?_
 repeat (first|refine W.gob rfl ?_|refine WL.nil ?_|refine WL.bt rfl rfl rfl (by omega) ?_|refine WL.bf rfl rfl rfl (by omega) ?_|refine WL.nt rfl rfl rfl (by omega) ?_|refine WL.nf rfl rfl rfl (by omega) ?_|refine WL.e1 rfl ?_|refine WL.ar rfl rfl (by unfold I64;omega) ?_|refine WL.len rfl rfl (by first|exact List.length_map _|exact List.length_replicate|rfl) ?_|refine W.condT rfl ?_|refine W.condF rfl ?_)
 (first|refine (?_:W _ _ _ _ _)|refine (?_:WL _ _ _ _ _ _)|skip)
 try dsimp only [St.put,Nat.reduceAdd]
 refine WL.vl rfl (WV.call rfl (callF Tryz.func81 rfl rfl) rfl rfl hcl) ?_
 repeat (first|refine W.go rfl ?_|refine WL.nil ?_|refine WL.ev rfl ?_|refine WL.ar rfl rfl (by unfold I64;omega) ?_|refine WL.len rfl rfl (by first|exact List.length_map _|exact List.length_replicate|rfl) ?_|refine W.condT rfl ?_|refine W.condF rfl ?_)
 (first|refine (?_:W _ _ _ _ _)|refine (?_:WL _ _ _ _ _ _)|skip)
 try dsimp only [St.put,Nat.reduceAdd]
 obtain ⟨B,hBq⟩:∃ z,edB s p (mea p.evs p.evs.length) (engL p key) k=z:=⟨_,rfl⟩
 obtain ⟨a1,ha1⟩:∃ z,Lib.itoa (m:Nat)=z:=⟨_,rfl⟩
 obtain ⟨et,het⟩:∃ z,stfR (engL p key) k p.evs[k]=z:=⟨_,rfl⟩
 obtain ⟨co,hco⟩:∃ z,colS s p k p.evs[k]=z:=⟨_,rfl⟩
 obtain ⟨oK,hoKq⟩:∃ z,onsAt p.evs k=z:=⟨_,rfl⟩
 obtain ⟨oF,hoFq⟩:∃ z,onsAt p.evs x.1.toNat=z:=⟨_,rfl⟩
 rw [hoKq,hoFq] at hD2 hl2 hR
 obtain ⟨a2,ha2⟩:∃ z,Lib.itoa (oK - oF)=z:=⟨_,rfl⟩
 rw [ha1] at hD1 hl1
 rw [ha2] at hD2 hl2
 rw [het] at hevl hSk
 rw [hco] at hcL
 rw [ha1,ha2,het,hco] at hR
 rw [hBq] at hBk hBs
 have hBk2:B.length≤546000000:=by omega
 have c1:(B++a1).length≤546000100:=by rw [List.length_append];omega
 have c2:(B++a1++[58]).length≤546000101:=by rw [List.length_append];simp only [List.length_cons,List.length_nil];omega
 have c3:(B++a1++[58]++a2).length≤546000200:=by rw [List.length_append];omega
 have c4:(B++a1++[58]++a2++[32]).length≤546000201:=by rw [List.length_append];simp only [List.length_cons,List.length_nil];omega
 have c5:(B++a1++[58]++a2++[32]++et).length≤546300201:=by rw [List.length_append];omega
 have c6:(B++a1++[58]++a2++[32]++et++[32,59,32]).length≤546300204:=by rw [List.length_append];simp only [List.length_cons,List.length_nil];omega
 have c7:(B++a1++[58]++a2++[32]++et++[32,59,32]++co).length≤547300204:=by rw [List.length_append];omega
 simp only [hBq,hco]
 refine W.drawK (by kernel_rfl) (by kernel_rfl) ?_
 repeat (first|refine DK.st rfl ?_|refine DK.ar rfl rfl (by unfold I64;omega) ?_|refine DK.idx rfl rfl (by omega) (by first|exact map_at (by omega)|exact map_atZ (by omega) (by omega)) ?_|refine DK.cat rfl rfl (by first|omega|(simp;done)|(simp;omega)) ?_|refine DK.nil ?_)
 refine DK.vl rfl (WV.call rfl (callF Tryz.func82 rfl rfl) rfl rfl hD1) ?_
 repeat (first|refine DK.st rfl ?_|refine DK.ar rfl rfl (by unfold I64;omega) ?_|refine DK.idx rfl rfl (by omega) (by first|exact map_at (by omega)|exact map_atZ (by omega) (by omega)) ?_|refine DK.cat rfl rfl (by first|omega|(simp;done)|(simp;omega)) ?_|refine DK.nil ?_)
 simp only [hst2]
 repeat (first|refine DK.st rfl ?_|refine DK.ar rfl rfl (by unfold I64;omega) ?_|refine DK.idx rfl rfl (by omega) (by first|exact map_at (by omega)|exact map_atZ (by omega) (by omega)) ?_|refine DK.cat rfl rfl (by first|omega|(simp;done)|(simp;omega)) ?_|refine DK.nil ?_)
 simp only [hok,hox,hoKq,hoFq]
 repeat (first|refine DK.st rfl ?_|refine DK.ar rfl rfl (by unfold I64;omega) ?_|refine DK.idx rfl rfl (by omega) (by first|exact map_at (by omega)|exact map_atZ (by omega) (by omega)) ?_|refine DK.cat rfl rfl (by first|omega|(simp;done)|(simp;omega)) ?_|refine DK.nil ?_)
 refine DK.vl rfl (WV.call rfl (callF Tryz.func82 rfl rfl) rfl rfl hD2) ?_
 repeat (first|refine DK.st rfl ?_|refine DK.ar rfl rfl (by unfold I64;omega) ?_|refine DK.idx rfl rfl (by omega) (by first|exact map_at (by omega)|exact map_atZ (by omega) (by omega)) ?_|refine DK.cat rfl rfl (by first|omega|(simp;done)|(simp;omega)) ?_|refine DK.nil ?_)
 refine DK.vl rfl (WV.call rfl (callF Tryz.func83 rfl rfl) rfl rfl hSk) ?_
 repeat (first|refine DK.st rfl ?_|refine DK.ar rfl rfl (by unfold I64;omega) ?_|refine DK.idx rfl rfl (by omega) (by first|exact map_at (by omega)|exact map_atZ (by omega) (by omega)) ?_|refine DK.cat rfl rfl (by first|omega|(simp;done)|(simp;omega)) ?_|refine DK.nil ?_)
 repeat (first|refine W.go rfl ?_|refine WL.nil ?_|refine WL.ev rfl ?_|refine WL.ar rfl rfl (by unfold I64;omega) ?_|refine WL.len rfl rfl (by first|exact List.length_map _|exact List.length_replicate|rfl) ?_|refine W.condT rfl ?_|refine W.condF rfl ?_)
 (first|refine (?_:W _ _ _ _ _)|refine (?_:WL _ _ _ _ _ _)|skip)
 try dsimp only [St.put,Nat.reduceAdd]
 refine ⟨k+1,by omega,by omega,?_⟩
 rw [hBs,hR]
 simp only [← List.append_assoc]
 exact (Tr.ren id (by repeat (first|exact trivial|refine ⟨⟨?_,?_⟩,?_⟩|rfl)) (by repeat (first|exact trivial|refine ⟨⟨?_,?_,?_⟩,?_⟩|rfl)) rfl)
end Go.Proofs.YtkgnmddakiagbaaGreatDoor
