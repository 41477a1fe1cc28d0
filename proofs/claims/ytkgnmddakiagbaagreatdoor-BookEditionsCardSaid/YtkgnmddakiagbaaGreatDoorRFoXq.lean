/- The reference's alteration in force, and its Engrave. -/
import Derived.Test.YtkgnmddakiagbaaGreatDoorRTiXq
import Derived.Test.YtkgnmddakiagbaaGreatDoorRClXq
set_option linter.unusedVariables false
set_option linter.unusedSimpArgs false
namespace Go.Proofs.YtkgnmddakiagbaaGreatDoor
open Go.RowKit
set_option maxHeartbeats 8000000
set_option maxRecDepth 100000
theorem rHas_FS (e:Ev)(x:Int)(hn:e.stops.length≤20):Ctr Tryz.prog 186 [.ag (eEv e),.sc (.int .i64 x)] (.sc (.bool (hasB x e.stops))):=by
 intro w F vs hF hR
 match vs,hR.1 with
 | [v,y],_ =>
  have hr:=hR.2 0 _ v rfl rfl
  obtain⟨cs,rfl,h1,h2⟩:∃ cs:Array Value,v=.agg cs∧cs.size=6∧∀ (i:Nat)av u,(eEv e)[i]?=some av→cs[i]?=some u→RP F av u:=by
   cases hr with|ag l cs a b=>exact⟨cs,rfl,a,b⟩
  have g:∀ i (h:i<6),cs[i]?=some (cs[i]'(by omega)):=fun i h=>Array.getElem?_eq_getElem (by omega)
  obtain⟨A,c,e5,hS,_⟩:=stps_of_rp hF (h2 5 _ _ rfl (g 5 (by omega)))
  have ev:Value.agg cs=evVal e A c:=by
   unfold evVal
   congr 1
   apply Array.ext (by simp [h1])
   intro i hi hi2
   match i,(show i<6 by omega)with
   | 0,_=>exact (h2 0 _ _ rfl (g 0 (by omega))).sc_eq
   | 1,_=>exact (h2 1 _ _ rfl (g 1 (by omega))).sc_eq
   | 2,_=>exact (h2 2 _ _ rfl (g 2 (by omega))).sc_eq
   | 3,_=>exact (h2 3 _ _ rfl (g 3 (by omega))).sc_eq
   | 4,_=>exact (h2 4 _ _ rfl (g 4 (by omega))).sc_eq
   | 5,_=>exact e5
  rw [ev,(hR.2 1 _ y rfl rfl).sc_eq]
  exact (rHas_any e A c x w hS hn).mono fun e w'⟨he,hb⟩=>⟨_,F,he,hb,fun _ _ h=>h,fun p u x=>by rw [hb.cell (cell_block (hF p u x))];exact hF p u x,fun _ _ h=>.inl h,.sc _⟩
theorem rStay_FS (p:Pce) (hO:PcOk p) (h0:pceE p=0) (i:Nat) (h:Int) (hh:0≤h) (hi:i+h.toNat+1≤p.evs.length) :
  Ctr Tryz.prog 181 [ePce p,.sc (.int .i64 i),.sc (.int .i64 h)] (.sc (.int .i64 (stayN p.evs (i+h.toNat+1):Nat))):=by
 have hn:=hO.n3
 obtain ⟨q,rfl⟩:∃ q:Nat,h=q:=⟨h.toNat,by omega⟩
 simp only [Int.toNat_natCast] at hi ⊢
 refine Ctr.intro Tryz.func181 rfl Tryz.ntmps181 (Nat.le_of_ble_eq_true rfl) (bd_all rfl) fun w0 F0=>?_;dsimp only [St.init,number,Nat.reduceAdd]
 repeat (first|refine W.go rfl ?_|refine WL.ev rfl ?_|refine WL.ar rfl rfl (by unfold I64;omega) ?_)
 refine (?_:W _ _ _ _ _)
 dsimp only [St.put,Nat.reduceAdd]
 refine W.loop (fun m:Nat=>i+q+1≤m∧m≤p.evs.length∧stayN p.evs (i+q+1)=stayN p.evs m) (fun m=>⟨[(3,.pt 0 0 0),(7,.sc (.int .i64 m))],[(0,.box 29 (ePce p).cells)],1⟩) (fun m=>p.evs.length - m) (i+q+1) ⟨Nat.le_refl _,by omega,rfl⟩ (Tr.ren id (by repeat (first|exact trivial|refine ⟨⟨?_,?_⟩,?_⟩|rfl)) (by repeat (first|exact trivial|refine ⟨⟨?_,?_,?_⟩,?_⟩|rfl)) rfl) fun m hm=>?_
 obtain ⟨hm1,hm2,hm3⟩:=hm
 by_cases hlt:m < p.evs.length
 ·have hok:=evOk_of h0 hlt
  by_cases hs:p.evs[m].stops.length=0
  ·repeat (first|refine W.gob rfl ?_|refine WL.nil ?_|refine WL.bt rfl rfl rfl (by omega) ?_|refine WL.e1 rfl ?_|refine WL.gyes rfl rfl rfl rfl ?_|refine WL.len rfl rfl (by first|exact List.length_map _|exact List.length_replicate|rfl) ?_|refine WL.idx rfl rfl (by omega) (by first|exact map_at (by omega)|exact map_atZ (by omega) (by omega)) ?_)
   refine (?_:W _ _ _ _ _)
   dsimp only [St.put,Nat.reduceAdd]
   (refine W.cond rfl (fun hif=>?_) (fun hif=>?_)<;>(try simp only [decide_eq_true_eq,decide_eq_false_iff_not,Int.not_lt,Int.not_le,Bool.not_eq_true',Bool.not_eq_false'] at hif))
   ·repeat (first|refine W.go rfl ?_|refine WL.ev rfl ?_|refine WL.ar rfl rfl (by unfold I64;omega) ?_)
    dsimp only [St.put,Nat.reduceAdd]
    exact ⟨m+1,⟨by omega,by omega,by rw [hm3,stayN_tie hlt hif]⟩,by omega,(Tr.ren id (by repeat (first|exact trivial|refine ⟨⟨?_,?_⟩,?_⟩|rfl)) (by repeat (first|exact trivial|refine ⟨⟨?_,?_,?_⟩,?_⟩|rfl)) rfl)⟩
   ·rw [hm3,stayN_no hlt hif]
    repeat refine W.go rfl ?_
    refine (?_:W _ _ _ _ _)
    dsimp only [St.put,Nat.reduceAdd]
    exact W.ret (fin1 rfl rfl rfl rfl)
  ·have ht:p.evs[m].tie=false:=by
    cases hq:p.evs[m].tie with
    | false=>rfl
    | true=>exact absurd (by rw [(hok.tie hq).1];rfl) hs
   rw [hm3,stayN_no hlt ht]
   repeat (first|refine W.gob rfl ?_|refine WL.nil ?_|refine WL.bt rfl rfl rfl (by omega) ?_|refine WL.bf rfl rfl rfl (by omega) ?_|refine WL.e1 rfl ?_|refine WL.gyes rfl rfl rfl rfl ?_|refine WL.opno rfl rfl rfl rfl rfl rfl rfl ?_|refine WL.len rfl rfl (by first|exact List.length_map _|exact List.length_replicate|rfl) ?_|refine WL.idx rfl rfl (by omega) (by first|exact map_at (by omega)|exact map_atZ (by omega) (by omega)) ?_|refine W.condF rfl ?_)
   refine (?_:W _ _ _ _ _)
   dsimp only [St.put,Nat.reduceAdd]
   exact W.ret (fin1 rfl rfl rfl rfl)
 ·rw [hm3,stayN_end (by omega)]
  repeat (first|refine W.gob rfl ?_|refine WL.nil ?_|refine WL.bf rfl rfl rfl (by omega) ?_|refine WL.e1 rfl ?_|refine WL.opno rfl rfl rfl rfl rfl rfl rfl ?_|refine WL.len rfl rfl (by first|exact List.length_map _|exact List.length_replicate|rfl) ?_|refine W.condF rfl ?_)
  refine (?_:W _ _ _ _ _)
  dsimp only [St.put,Nat.reduceAdd]
  exact W.ret (fin1 rfl rfl rfl rfl)
theorem opn_at {evs:List Ev} {i j:Nat} {c:Int} (h:opnN evs i c j=none) (hi:i<j) (hc:cutB evs c j=true):∀ b,j<b→opnN evs i c b=some j
 | 0,hb=>by omega
 | b+1,hb=>by
  rw [opnN_succ]
  by_cases e:b=j
  ·subst e
   rw [h,if_pos ⟨hi,hc⟩];rfl
  ·rw [opn_at h hi hc b (by omega)];rfl
theorem rOpen_FS (p:Pce) (hO:PcOk p) (i:Nat) (hi:i < p.evs.length) (c:Int) :
  Ctr Tryz.prog 182 [ePce p,.sc (.int .i64 i),.sc (.int .i64 c)] (.sc (.int .i64 ((opnN p.evs i c p.evs.length).getD p.evs.length:Nat))):=by
 have hn:=hO.n3
 refine Ctr.intro Tryz.func182 rfl Tryz.ntmps182 (Nat.le_of_ble_eq_true rfl) (bd_all rfl) fun w0 F0=>?_;dsimp only [St.init,number,Nat.reduceAdd]
 repeat (first|refine W.go rfl ?_|refine WL.ev rfl ?_|refine WL.ar rfl rfl (by unfold I64;omega) ?_)
 refine (?_:W _ _ _ _ _)
 dsimp only [St.put,Nat.reduceAdd]
 refine W.loop (fun m:Nat=>i+1≤m∧m≤p.evs.length∧opnN p.evs i c m=none) (fun m=>⟨[(2,.sc (.int .i64 c)),(3,.pt 0 0 0),(7,.sc (.int .i64 m))],[(0,.box 29 (ePce p).cells)],1⟩) (fun m=>p.evs.length - m) (i+1) ⟨Nat.le_refl _,by omega,opnN_early _ _ _ _ (Nat.le_refl _)⟩ (Tr.ren id (by repeat (first|exact trivial|refine ⟨⟨?_,?_⟩,?_⟩|rfl)) (by repeat (first|exact trivial|refine ⟨⟨?_,?_,?_⟩,?_⟩|rfl)) rfl) fun m hm=>?_
 obtain ⟨hm1,hm2,hm3⟩:=hm
 by_cases hlt:m < p.evs.length
 rotate_left
 ·obtain rfl:m=p.evs.length:=by omega
  rw [hm3]
  repeat (first|refine W.gob rfl ?_|refine WL.nil ?_|refine WL.bf rfl rfl rfl (by omega) ?_|refine WL.e1 rfl ?_|refine WL.len rfl rfl (by first|exact List.length_map _|exact List.length_replicate|rfl) ?_|refine W.condF rfl ?_)
  refine (?_:W _ _ _ _ _)
  dsimp only [St.put,Nat.reduceAdd]
  exact W.ret (fin1 rfl rfl rfl rfl)
 have hR:=rest_FS p.evs[m]
 have hH:=rHas_FS p.evs[m] c (hO.n4 m hlt)
 have hcut:cutB p.evs c m=(restB p.evs[m] || hasB c p.evs[m].stops):=by unfold cutB;rw [List.getElem?_eq_getElem hlt]
 have hfound:cutB p.evs c m=true→(opnN p.evs i c p.evs.length).getD p.evs.length=m:=fun hc=>by
  rw [opn_at hm3 (by omega) hc _ hlt];rfl
 have hnext:cutB p.evs c m=false→opnN p.evs i c (m+1)=none:=fun hc=>by
  rw [opnN_keep hc];exact hm3
 repeat (first|refine W.gob rfl ?_|refine WL.nil ?_|refine WL.bt rfl rfl rfl (by omega) ?_|refine WL.e1 rfl ?_|refine WL.len rfl rfl (by first|exact List.length_map _|exact List.length_replicate|rfl) ?_|refine WL.idx rfl rfl (by omega) (by first|exact map_at (by omega)|exact map_atZ (by omega) (by omega)) ?_|refine W.condT rfl ?_)
 refine (?_:WL _ _ _ _ _ _)
 dsimp only [St.put,Nat.reduceAdd]
 refine WL.vl rfl (WV.call rfl (callF Tryz.func130 rfl rfl) rfl rfl hR) ?_
 cases hr:restB p.evs[m] with
 | true =>
  rw [hfound (by rw [hcut,hr];rfl)]
  repeat (first|refine W.gob rfl ?_|refine WL.nil ?_|refine WL.e1 rfl ?_|refine WL.opno rfl rfl rfl rfl rfl rfl rfl ?_|refine W.condT rfl ?_)
  refine (?_:W _ _ _ _ _)
  dsimp only [St.put,Nat.reduceAdd]
  exact W.ret (fin1 rfl rfl rfl rfl)
 | false =>
  repeat (first|refine WL.e1 rfl ?_|refine WL.gyes rfl rfl rfl rfl ?_|refine WL.idx rfl rfl (by omega) (by first|exact map_at (by omega)|exact map_atZ (by omega) (by omega)) ?_)
  refine (?_:WL _ _ _ _ _ _)
  dsimp only [St.put,Nat.reduceAdd]
  refine WL.vl rfl (WV.call rfl (callF Tryz.func186 rfl rfl) rfl rfl hH) ?_
  cases hh:hasB c p.evs[m].stops with
  | true =>
   rw [hfound (by rw [hcut,hr,hh];rfl)]
   repeat (first|refine W.gob rfl ?_|refine WL.nil ?_|refine WL.e1 rfl ?_|refine W.condT rfl ?_)
   refine (?_:W _ _ _ _ _)
   dsimp only [St.put,Nat.reduceAdd]
   exact W.ret (fin1 rfl rfl rfl rfl)
  | false =>
   repeat (first|refine W.gob rfl ?_|refine WL.nil ?_|refine WL.e1 rfl ?_|refine WL.ar rfl rfl (by unfold I64;omega) ?_|refine W.condF rfl ?_)
   dsimp only [St.put,Nat.reduceAdd]
   exact ⟨m+1,⟨by omega,by omega,hnext (by rw [hcut,hr,hh];rfl)⟩,by omega,(Tr.ren id (by repeat (first|exact trivial|refine ⟨⟨?_,?_⟩,?_⟩|rfl)) (by repeat (first|exact trivial|refine ⟨⟨?_,?_,?_⟩,?_⟩|rfl)) rfl)⟩
def endN (p:Pce)(i:Nat)(x:Stp):Nat:=if 0<x.2.1 then stayN p.evs (i+x.2.2.2.2.toNat+1)else (opnN p.evs i x.1 p.evs.length).getD p.evs.length
theorem opnN_lt {evs:List Ev} {i:Nat} {c:Int} {b k:Nat} (h:opnN evs i c b=some k):k<b:=by
 unfold opnN at h
 exact List.mem_range.1 (List.mem_of_find?_eq_some h)
theorem endN_le {p:Pce} {i:Nat} {x:Stp} (hi:i+x.2.2.2.2.toNat+1≤p.evs.length):endN p i x≤p.evs.length:=by
 unfold endN
 split
 ·exact (stayN_le hi).2
 ·cases h:opnN p.evs i x.1 p.evs.length with
  | none=>exact Nat.le_refl _
  | some k=>exact Nat.le_of_lt (opnN_lt h)
theorem noteR_eq (p:Pce)(i:Nat)(x:Stp):noteR p i x=((i:Int),x.1,pitN p.cs p.st x.1 x.2.1,onsAt p.evs i,onsAt p.evs (endN p i x)):=by
 unfold noteR valN endN
 simp only
 split<;>rfl
theorem rEnd_FS (p:Pce) (hO:PcOk p) (h0:pceE p=0) (i:Nat) (hi:i < p.evs.length) (x:Stp) (hx:StpOk p i x) (hi2:i+x.2.2.2.2.toNat+1≤p.evs.length) :
  Ctr Tryz.prog 140 [ePce p,.sc (.int .i64 i),.ag (eStp x)] (.sc (.int .i64 (endN p i x:Nat))):=by
 have hS:=rStay_FS p hO h0 i x.2.2.2.2 hx.hold.1 hi2
 have hP:=rOpen_FS p hO i hi x.1
 unfold endN
 by_cases h:0 < x.2.1
 ·rw [if_pos h]
  refine Ctr.intro Tryz.func140 rfl Tryz.ntmps140 (Nat.le_of_ble_eq_true rfl) (bd_all rfl) fun w0 F0=>?_;dsimp only [St.init,number,Nat.reduceAdd]
  repeat (first|refine W.gob rfl ?_|refine WL.nil ?_|refine WL.bt rfl rfl rfl (by omega) ?_|refine WL.e1 rfl ?_|refine W.condT rfl ?_)
  refine (?_:WL _ _ _ _ _ _)
  dsimp only [St.put,Nat.reduceAdd]
  refine WL.vl rfl (WV.call rfl (callF Tryz.func181 rfl rfl) rfl rfl hS) ?_
  repeat (first|refine WL.nil ?_|refine WL.e1 rfl ?_)
  refine (?_:W _ _ _ _ _)
  dsimp only [St.put,Nat.reduceAdd]
  exact W.ret (fin1 rfl rfl rfl rfl)
 ·rw [if_neg h]
  refine Ctr.intro Tryz.func140 rfl Tryz.ntmps140 (Nat.le_of_ble_eq_true rfl) (bd_all rfl) fun w0 F0=>?_;dsimp only [St.init,number,Nat.reduceAdd]
  repeat (first|refine W.gob rfl ?_|refine WL.nil ?_|refine WL.bf rfl rfl rfl (by omega) ?_|refine WL.e1 rfl ?_|refine W.condF rfl ?_)
  refine (?_:WL _ _ _ _ _ _)
  dsimp only [St.put,Nat.reduceAdd]
  refine WL.vl rfl (WV.call rfl (callF Tryz.func182 rfl rfl) rfl rfl hP) ?_
  repeat (first|refine WL.nil ?_|refine WL.e1 rfl ?_)
  refine (?_:W _ _ _ _ _)
  dsimp only [St.put,Nat.reduceAdd]
  exact W.ret (fin1 rfl rfl rfl rfl)
theorem notesR_le {p:Pce} (hO:PcOk p):∀ k,k≤p.evs.length→(notesR p k).length≤20*k
 | 0,_=>by simp [notesR]
 | k+1,h=>by
  have h1:=notesR_le hO k (by omega)
  have h2:=hO.n4 k (by omega)
  have e1:notesR p (k+1)=notesR p k++p.evs[k].stops.map (noteR p k):=by
   show (match p.evs[k]? with|some e=>_|none=>_)=_
   rw [List.getElem?_eq_getElem (show k<p.evs.length by omega)]
  rw [e1,List.length_append,List.length_map];omega
theorem rNotes_FS (p:Pce) (hO:PcOk p):Ctr Tryz.prog 67 [ePce p] (.tu [.ls 5 ((notesP p).map eNt),.sc (.int .i64 (pceE p))]):=by
 have hn3:=hO.n3
 have hOn:=rOnsets_FS p hO
 by_cases h0:pceE p=0
 rotate_left
 ·have e1:notesP p=[]:=if_neg h0
  rw [e1]
  rw [if_neg h0] at hOn
  obtain ⟨E,hE⟩:∃ E,pceE p=E:=⟨_,rfl⟩
  rw [hE] at hOn h0 ⊢
  refine Ctr.intro Tryz.func67 rfl Tryz.ntmps67 (Nat.le_of_ble_eq_true rfl) (bd_all rfl) fun w0 F0=>?_;dsimp only [St.init,number,Nat.reduceAdd]
  repeat refine W.go rfl ?_
  refine (?_:WL _ _ _ _ _ _)
  dsimp only [St.put,Nat.reduceAdd]
  refine WL.vl rfl (WV.call rfl (callF Tryz.func138 rfl rfl) rfl rfl hOn) ?_
  repeat (first|refine W.gob rfl ?_|refine WL.nil ?_|refine WL.nt rfl rfl rfl (by omega) ?_|refine WL.e1 rfl ?_|refine W.condT rfl ?_)
  refine (?_:W _ _ _ _ _)
  dsimp only [St.put,Nat.reduceAdd]
  refine W.tr (Tr.nilR (t:=2) 5 rfl) ?_
  exact W.ret (finN rfl rfl rfl rfl)
 have e1:notesP p=notesR p p.evs.length:=if_pos h0
 rw [e1,h0]
 rw [if_pos h0,h0] at hOn
 have hol:=onsL_length p.evs p.evs.length
 refine Ctr.intro Tryz.func67 rfl Tryz.ntmps67 (Nat.le_of_ble_eq_true rfl) (bd_all rfl) fun w0 F0=>?_;dsimp only [St.init,number,Nat.reduceAdd]
 repeat refine W.go rfl ?_
 refine (?_:WL _ _ _ _ _ _)
 dsimp only [St.put,Nat.reduceAdd]
 refine WL.vl rfl (WV.call rfl (callF Tryz.func138 rfl rfl) rfl rfl hOn) ?_
 repeat (first|refine W.go rfl ?_|refine WL.ev rfl ?_|refine W.condF rfl ?_)
 refine (?_:W _ _ _ _ _)
 dsimp only [St.put,Nat.reduceAdd]
 refine W.tr (Tr.nil (t:=6) 64 5 rfl rfl) ?_
 dsimp only [St.put,St.new,St.upd,Nat.reduceAdd]
 refine W.loop (fun k:Nat=>k≤p.evs.length) (fun k=>⟨[(1,.pt 0 0 0),(4,.ls 1 ((onsL p.evs p.evs.length).map eInt)),(6,.sl 1),(7,.sc (.int .i64 k))],[(0,.box 29 (ePce p).cells),(1,.row 64 5 ((notesR p k).map eNt))],2⟩) (fun k=>p.evs.length - k) 0 (by omega) (Tr.ren id (by repeat (first|exact trivial|refine ⟨⟨?_,?_⟩,?_⟩|rfl)) (by repeat (first|exact trivial|refine ⟨⟨?_,?_,?_⟩,?_⟩|rfl)) rfl) fun k hk=>?_
 by_cases hlt:k < p.evs.length
 rotate_left
 ·obtain rfl:k=p.evs.length:=by omega
  repeat (first|refine W.gob rfl ?_|refine WL.nil ?_|refine WL.bf rfl rfl rfl (by omega) ?_|refine WL.e1 rfl ?_|refine WL.len rfl rfl (by first|exact List.length_map _|exact List.length_replicate|rfl) ?_|refine W.condF rfl ?_)
  refine (?_:W _ _ _ _ _)
  dsimp only [St.put,Nat.reduceAdd]
  refine W.tr (Tr.freeze 1 rfl) ?_
  exact W.ret (finN rfl rfl rfl rfl)
 have hev:=evOk_of h0 hlt
 have h20:=hO.n4 k hlt
 have hnl:=notesR_le hO k hk
 have hons:(onsL p.evs p.evs.length)[k]'(by omega)=onsAt p.evs k:=onsL_get (by omega) _
 have e2:notesR p (k+1)=notesR p k++p.evs[k].stops.map (noteR p k):=by
  show (match p.evs[k]? with|some e=>_|none=>_)=_
  rw [List.getElem?_eq_getElem hlt]
 repeat (first|refine W.gob rfl ?_|refine WL.nil ?_|refine WL.bt rfl rfl rfl (by omega) ?_|refine WL.e1 rfl ?_|refine WL.len rfl rfl (by first|exact List.length_map _|exact List.length_replicate|rfl) ?_|refine W.condT rfl ?_)
 refine (?_:W _ _ _ _ _)
 dsimp only [St.put,Nat.reduceAdd]
 refine W.loop (fun q:Nat=>q≤p.evs[k].stops.length) (fun q=>⟨[(1,.pt 0 0 0),(4,.ls 1 ((onsL p.evs p.evs.length).map eInt)),(6,.sl 1),(7,.sc (.int .i64 k)),(8,.sc (.int .i64 q))],[(0,.box 29 (ePce p).cells),(1,.row 64 5 ((notesR p k++(p.evs[k].stops.take q).map (noteR p k)).map eNt))],2⟩) (fun q=>p.evs[k].stops.length - q) 0 (by omega) (Tr.ren (fun q=>q) (by repeat (first|exact trivial|refine ⟨⟨?_,?_⟩,?_⟩|rfl)) (by repeat (first|exact trivial|refine ⟨⟨?_,?_,?_⟩,?_⟩|rfl|exact congrArg (fun q=>some (AO.row _ _ q)) (by simp))) rfl) fun q hq=>?_
 have hlen:(notesR p k++(p.evs[k].stops.take q).map (noteR p k)).length≤8420:=by
  rw [List.length_append,List.length_map,List.length_take];omega
 by_cases hql:q < p.evs[k].stops.length
 rotate_left
 ·obtain rfl:q=p.evs[k].stops.length:=by omega
  rw [List.take_length,← e2]
  repeat (first|refine W.gob rfl ?_|refine WL.nil ?_|refine WL.bf rfl rfl rfl (by omega) ?_|refine WL.e1 rfl ?_|refine WL.ar rfl rfl (by unfold I64;omega) ?_|refine WL.len rfl rfl (by first|exact List.length_map _|exact List.length_replicate|rfl) ?_|refine WL.idx rfl rfl (by omega) (by first|exact map_at (by omega)|exact map_atZ (by omega) (by omega)) ?_|refine W.condF rfl ?_)
  dsimp only [St.put,Nat.reduceAdd]
  exact ⟨k+1,by omega,by omega,(Tr.ren id (by repeat (first|exact trivial|refine ⟨⟨?_,?_⟩,?_⟩|rfl)) (by repeat (first|exact trivial|refine ⟨⟨?_,?_,?_⟩,?_⟩|rfl)) rfl)⟩
 have hst:=hev.stops _ (List.getElem_mem hql)
 have hS:=rSoundP_FS h0 hst
 have hlo:=longestN_end hlt p.evs[k].stops[q].1
 have hi2:k+p.evs[k].stops[q].2.2.2.2.toNat+1≤p.evs.length:=by have:=hst.hold;omega
 have hE:=rEnd_FS p hO h0 k hlt _ hst hi2
 have hle:=endN_le (x:=p.evs[k].stops[q]) hi2
 have htk:notesR p k++(p.evs[k].stops.take (q+1)).map (noteR p k)=(notesR p k++(p.evs[k].stops.take q).map (noteR p k))++[((k:Int),p.evs[k].stops[q].1,pitN p.cs p.st p.evs[k].stops[q].1 p.evs[k].stops[q].2.1,onsAt p.evs k,onsAt p.evs (endN p k p.evs[k].stops[q]))]:=by
  rw [List.take_succ_eq_append_getElem hql,List.map_append,← List.append_assoc,← noteR_eq];rfl
 obtain ⟨R,hR⟩:∃ R,notesR p k++(p.evs[k].stops.take q).map (noteR p k)=R:=⟨_,rfl⟩
 rw [hR] at hlen htk ⊢
 repeat (first|refine W.gob rfl ?_|refine WL.nil ?_|refine WL.bt rfl rfl rfl (by omega) ?_|refine WL.e1 rfl ?_|refine WL.len rfl rfl (by first|exact List.length_map _|exact List.length_replicate|rfl) ?_|refine WL.idx rfl rfl (by omega) (by first|exact map_at (by omega)|exact map_atZ (by omega) (by omega)) ?_|refine W.condT rfl ?_)
 refine (?_:WL _ _ _ _ _ _)
 dsimp only [St.put,Nat.reduceAdd]
 obtain ⟨x,hx⟩:∃ x,p.evs[k].stops[q]=x:=⟨_,rfl⟩
 simp only [hx] at hS hE hle htk ⊢
 obtain ⟨r,hr⟩:∃ r,pitN p.cs p.st x.1 x.2.1=r:=⟨_,rfl⟩
 obtain ⟨z,hz⟩:∃ z,endN p k x=z:=⟨_,rfl⟩
 rw [hr] at hS htk
 rw [hz] at hE hle htk
 have honz:(onsL p.evs p.evs.length)[((z:Nat):Int).toNat]'(by simp;omega)=onsAt p.evs z:=by simp only [Int.toNat_natCast];exact onsL_get (by omega) _
 refine WL.vl rfl (WV.call rfl (callF Tryz.func139 rfl rfl) rfl rfl hS) ?_
 repeat refine WL.ev rfl ?_
 refine (?_:W _ _ _ _ _)
 dsimp only [St.put,Nat.reduceAdd]
 refine W.dm [0,2] (by kernel_rfl) (by kernel_rfl) (by kernel_rfl) (by repeat constructor) ?_
 repeat (first|refine DMK.st rfl rfl ?_|refine DMK.idx rfl rfl (by omega) (by first|exact map_at (by omega)|exact map_atZ (by omega) (by omega)) ?_)
 refine DMK.vl rfl (WV.call rfl (callF Tryz.func140 rfl rfl) rfl rfl hE) ?_
 repeat (first|refine DMK.st rfl rfl ?_|refine DMK.idx rfl rfl (by omega) (by first|exact map_at (by omega)|exact map_atZ (by omega) (by omega)) ?_|refine DMK.s1 rfl (by kernel_rfl) rfl ?_|refine DMK.bd rfl rfl rfl (by repeat constructor) ?_|refine DMK.ap rfl rfl (by first|omega|(simp;done)|(simp;omega)) (by repeat constructor) ?_|refine DMK.nil ?_)
 repeat (first|refine W.go rfl ?_|refine WL.ev rfl ?_|refine WL.ar rfl rfl (by unfold I64;omega) ?_)
 dsimp only [St.put,Nat.reduceAdd]
 refine ⟨q+1,by omega,by omega,?_⟩
 rw [htk,← hons,← honz]
 exact (Tr.ren (fun q=>bif Nat.beq q 1 then 4 else q) (by repeat (first|exact trivial|refine ⟨⟨?_,?_⟩,?_⟩|rfl)) (by repeat (first|exact trivial|refine ⟨⟨?_,?_,?_⟩,?_⟩|rfl|exact congrArg (fun q=>some (AO.row _ _ q)) (by rw [List.map_append];rfl))) rfl)
end Go.Proofs.YtkgnmddakiagbaaGreatDoor
namespace Go.Proofs.YtkgnmddakiagbaaGreatDoor
open Go.RowKit
set_option maxHeartbeats 8000000
set_option maxRecDepth 100000
def frcQ (st:List Int)(key:Int)(ev:Int)(k:Ln)(prev:List Sf):Int:=if 0<scanK st (cntS ev st) k prev then altA (scanK st (cntS ev st) k prev) else sigR key k.1
theorem frcQ_eq {st:List Int} {key ev:Int} {k:Ln} {prev:List Sf} (hk:-4≤key∧key≤4)(hl:0≤k.1∧k.1≤6):frcQ st key ev k prev=frcR st key ev k prev:=by
 unfold frcQ frcR
 rw [sigR_eq hk hl]
theorem rForce_FS (L:List Sf) (st:List Int) (key:Int) (i:Nat) (hi:i < L.length) (hk:-4≤key∧key≤4) (hacc:∀ x∈L.take i,x.2.2.2≤3) (hL:L.length≤1000000) (hst:st.length≤1000000) :
  Ctr Tryz.prog 70 [.ls 4 (L.map eSf),.sc (.int .i64 i),.ls 1 (st.map eInt),.sc (.int .i64 key)] (.sc (.int .i64 (frcQ st key L[i].1 (atL L[i]) (L.take i).reverse))):=by
 have hMe:=fun ev=>rMeasure_FS st hst ev
 refine Ctr.intro Tryz.func70 rfl Tryz.ntmps70 (Nat.le_of_ble_eq_true rfl) (bd_all rfl) fun w0 F0=>?_;dsimp only [St.init,number,Nat.reduceAdd]
 repeat (first|refine W.gob rfl ?_|refine WL.nil ?_|refine WL.e1 rfl ?_|refine WL.idx rfl rfl (by omega) (by first|exact map_at (by omega)|exact map_atZ (by omega) (by omega)) ?_)
 refine (?_:WL _ _ _ _ _ _)
 dsimp only [St.put,Nat.reduceAdd]
 refine WL.vl rfl (WV.call rfl (callF Tryz.func80 rfl rfl) rfl rfl (hMe L[i].1)) ?_
 repeat (first|refine W.gob rfl ?_|refine WL.nil ?_|refine WL.e1 rfl ?_|refine WL.ar rfl rfl (by unfold I64;omega) ?_)
 refine (?_:W _ _ _ _ _)
 dsimp only [St.put,Nat.reduceAdd]
 unfold frcQ
 obtain ⟨m,hm⟩:∃ m,cntS L[i].1 st=m:=⟨_,rfl⟩
 rw [hm]
 have hml:m≤1000000:=by rw [← hm];have:=cntS_le L[i].1 st;omega
 refine W.loop (fun n:Nat=>n≤i∧scanK st m (atL L[i]) (L.take i).reverse=scanK st m (atL L[i]) (L.take n).reverse) (fun n=>⟨[(0,.ls 4 (L.map eSf)),(1,.sc (.int .i64 i)),(2,.ls 1 (st.map eInt)),(3,.sc (.int .i64 key)),(9,.sc (.int .i64 (m:Nat))),(10,.sc (.int .i64 ((n:Int) - 1)))],[],0⟩) (fun n=>n) i ⟨Nat.le_refl _,rfl⟩ (Tr.ren id (by repeat (first|exact trivial|refine ⟨⟨?_,?_⟩,?_⟩|rfl)) (by repeat (first|exact trivial|refine ⟨⟨?_,?_,?_⟩,?_⟩|rfl)) rfl) fun n hn=>?_
 obtain ⟨hn1,hn2⟩:=hn
 have hend:scanK st m (atL L[i]) (L.take n).reverse=0→(if 0 < scanK st m (atL L[i]) (L.take i).reverse then altA (scanK st m (atL L[i]) (L.take i).reverse) else sigR key (atL L[i]).1)=sigR key L[i].2.1:=fun h=>by
  rw [hn2,h];rfl
 match n,hn1,hn2,hend with
 | 0,hn1,hn2,hend =>
  rw [hend rfl]
  repeat (first|refine W.gob rfl ?_|refine WL.nil ?_|refine WL.bf rfl rfl rfl (by omega) ?_|refine WL.e1 rfl ?_|refine WL.opno rfl rfl rfl rfl rfl rfl rfl ?_|refine WL.idx rfl rfl (by omega) (by first|exact map_at (by omega)|exact map_atZ (by omega) (by omega)) ?_|refine W.condF rfl ?_)
  refine (?_:WL _ _ _ _ _ _)
  dsimp only [St.put,Nat.reduceAdd]
  refine WL.vl rfl (WV.call rfl (callF Tryz.func143 rfl rfl) rfl rfl (rSig_FS key L[i].2.1 hk)) ?_
  repeat (first|refine WL.nil ?_|refine WL.e1 rfl ?_)
  refine (?_:W _ _ _ _ _)
  dsimp only [St.put,Nat.reduceAdd]
  exact W.ret (fin1 rfl rfl rfl rfl)
 | n+1,hn1,hn2,hend =>
  have hnl:n < L.length:=by omega
  have hz:(((n+1:Nat):Int) - 1)=(n:Int):=by omega
  have hrev:(L.take (n+1)).reverse=L[n]::(L.take n).reverse:=rev_take hnl
  have hcl:=cntS_le L[n].1 st
  rw [hrev] at hn2 hend
  rw [hz]
  repeat (first|refine W.gob rfl ?_|refine WL.bt rfl rfl rfl (by omega) ?_|refine WL.e1 rfl ?_|refine WL.gyes rfl rfl rfl rfl ?_|refine WL.idx rfl rfl (by omega) (by first|exact map_at (by omega)|exact map_atZ (by omega) (by omega)) ?_)
  refine (?_:WL _ _ _ _ _ _)
  dsimp only [St.put,Nat.reduceAdd]
  refine WL.vl rfl (WV.call rfl (callF Tryz.func80 rfl rfl) rfl rfl (hMe L[n].1)) ?_
  by_cases hq:cntS L[n].1 st=m
  rotate_left
  ·rw [hend (if_neg hq)]
   repeat (first|refine W.gob rfl ?_|refine WL.nil ?_|refine WL.bf rfl rfl rfl (by omega) ?_|refine WL.e1 rfl ?_|refine WL.gyes rfl rfl rfl rfl ?_|refine WL.idx rfl rfl (by omega) (by first|exact map_at (by omega)|exact map_atZ (by omega) (by omega)) ?_|refine W.condF rfl ?_)
   refine (?_:WL _ _ _ _ _ _)
   dsimp only [St.put,Nat.reduceAdd]
   refine WL.vl rfl (WV.call rfl (callF Tryz.func143 rfl rfl) rfl rfl (rSig_FS key L[i].2.1 hk)) ?_
   repeat (first|refine WL.nil ?_|refine WL.e1 rfl ?_)
   refine (?_:W _ _ _ _ _)
   dsimp only [St.put,Nat.reduceAdd]
   exact W.ret (fin1 rfl rfl rfl rfl)
  have hmem:L[n]∈L.take i:=by
   have:(L.take i)[n]'(by rw [List.length_take];omega)=L[n]:=List.getElem_take
   rw [← this];exact List.getElem_mem _
  have ha:=hacc _ hmem
  have hs:scanK st m (atL L[i]) (L[n]::(L.take n).reverse)=if (L[n].2.1,L[n].2.2.1)=atL L[i]∧0 < L[n].2.2.2 then L[n].2.2.2 else scanK st m (atL L[i]) (L.take n).reverse:=if_pos hq
  have hz2:((n:Nat):Int) - 1=((n:Nat):Int) - 1:=rfl
  by_cases h1:L[n].2.1=L[i].2.1
  rotate_left
  ·rw [if_neg fun q=>h1 (Prod.mk.inj (show (L[n].2.1,L[n].2.2.1)=(L[i].2.1,L[i].2.2.1) from q.1)).1] at hs
   repeat (first|refine W.gob rfl ?_|refine WL.nil ?_|refine WL.bt rfl rfl rfl (by omega) ?_|refine WL.e1 rfl ?_|refine WL.gyes rfl rfl rfl rfl ?_|refine W.condT rfl ?_)
   refine (?_:W _ _ _ _ _)
   dsimp only [St.put,Nat.reduceAdd]
   refine W.drawK (by kernel_rfl) (by kernel_rfl) ?_
   repeat (first|refine DK.bf rfl rfl (by omega) ?_|refine DK.ff rfl (by first|(simp;done)|fail) ?_|refine DK.st rfl ?_|refine DK.idx rfl rfl (by omega) (by first|exact map_at (by omega)|exact map_atZ (by omega) (by omega)) ?_|refine DK.nil ?_)
   repeat (first|refine W.gob rfl ?_|refine WL.nil ?_|refine WL.e1 rfl ?_|refine WL.ar rfl rfl (by unfold I64;omega) ?_|refine W.condF rfl ?_)
   dsimp only [St.put,Nat.reduceAdd]
   exact ⟨n,⟨by omega,hn2.trans hs⟩,by omega,(Tr.ren id (by repeat (first|exact trivial|refine ⟨⟨?_,?_⟩,?_⟩|rfl)) (by repeat (first|exact trivial|refine ⟨⟨?_,?_,?_⟩,?_⟩|rfl)) rfl)⟩
  by_cases h2:L[n].2.2.1=L[i].2.2.1
  rotate_left
  ·rw [if_neg fun q=>h2 (Prod.mk.inj (show (L[n].2.1,L[n].2.2.1)=(L[i].2.1,L[i].2.2.1) from q.1)).2] at hs
   repeat (first|refine W.gob rfl ?_|refine WL.nil ?_|refine WL.bt rfl rfl rfl (by omega) ?_|refine WL.e1 rfl ?_|refine WL.gyes rfl rfl rfl rfl ?_|refine W.condT rfl ?_)
   refine (?_:W _ _ _ _ _)
   dsimp only [St.put,Nat.reduceAdd]
   refine W.drawK (by kernel_rfl) (by kernel_rfl) ?_
   repeat (first|refine DK.bt rfl rfl (by omega) ?_|refine DK.bf rfl rfl (by omega) ?_|refine DK.tt rfl (by first|(simp;done)|fail) ?_|refine DK.ff rfl (by first|(simp;done)|fail) ?_|refine DK.st rfl ?_|refine DK.idx rfl rfl (by omega) (by first|exact map_at (by omega)|exact map_atZ (by omega) (by omega)) ?_|refine DK.nil ?_)
   repeat (first|refine W.gob rfl ?_|refine WL.nil ?_|refine WL.e1 rfl ?_|refine WL.ar rfl rfl (by unfold I64;omega) ?_|refine W.condF rfl ?_)
   dsimp only [St.put,Nat.reduceAdd]
   exact ⟨n,⟨by omega,hn2.trans hs⟩,by omega,(Tr.ren id (by repeat (first|exact trivial|refine ⟨⟨?_,?_⟩,?_⟩|rfl)) (by repeat (first|exact trivial|refine ⟨⟨?_,?_,?_⟩,?_⟩|rfl)) rfl)⟩
  by_cases h3:L[n].2.2.2 > 0
  rotate_left
  ·rw [if_neg fun q=>h3 q.2] at hs
   repeat (first|refine W.gob rfl ?_|refine WL.nil ?_|refine WL.bt rfl rfl rfl (by omega) ?_|refine WL.e1 rfl ?_|refine WL.gyes rfl rfl rfl rfl ?_|refine W.condT rfl ?_)
   refine (?_:W _ _ _ _ _)
   dsimp only [St.put,Nat.reduceAdd]
   refine W.drawK (by kernel_rfl) (by kernel_rfl) ?_
   repeat (first|refine DK.bt rfl rfl (by omega) ?_|refine DK.bf rfl rfl (by omega) ?_|refine DK.tt rfl (by first|(simp;done)|fail) ?_|refine DK.ff rfl (by first|(simp;done)|fail) ?_|refine DK.st rfl ?_|refine DK.idx rfl rfl (by omega) (by first|exact map_at (by omega)|exact map_atZ (by omega) (by omega)) ?_|refine DK.nil ?_)
   repeat (first|refine W.gob rfl ?_|refine WL.nil ?_|refine WL.e1 rfl ?_|refine WL.ar rfl rfl (by unfold I64;omega) ?_|refine W.condF rfl ?_)
   dsimp only [St.put,Nat.reduceAdd]
   exact ⟨n,⟨by omega,hn2.trans hs⟩,by omega,(Tr.ren id (by repeat (first|exact trivial|refine ⟨⟨?_,?_⟩,?_⟩|rfl)) (by repeat (first|exact trivial|refine ⟨⟨?_,?_,?_⟩,?_⟩|rfl)) rfl)⟩
  rw [if_pos ⟨by show (_,_)=(_,_);rw [h1,h2],h3⟩] at hs
  have hfin:(if 0 < scanK st m (atL L[i]) (L.take i).reverse then altA (scanK st m (atL L[i]) (L.take i).reverse) else sigR key (atL L[i]).1)=altA L[n].2.2.2:=by
   rw [hn2,hs,if_pos h3]
  rw [hfin]
  repeat (first|refine W.gob rfl ?_|refine WL.nil ?_|refine WL.bt rfl rfl rfl (by omega) ?_|refine WL.e1 rfl ?_|refine WL.gyes rfl rfl rfl rfl ?_|refine W.condT rfl ?_)
  refine (?_:W _ _ _ _ _)
  dsimp only [St.put,Nat.reduceAdd]
  refine W.drawK (by kernel_rfl) (by kernel_rfl) ?_
  repeat (first|refine DK.bt rfl rfl (by omega) ?_|refine DK.tt rfl (by first|(simp;done)|fail) ?_|refine DK.st rfl ?_|refine DK.idx rfl rfl (by omega) (by first|exact map_at (by omega)|exact map_atZ (by omega) (by omega)) ?_|refine DK.nil ?_)
  repeat (first|refine W.gob rfl ?_|refine WL.e1 rfl ?_|refine WL.idx rfl rfl (by omega) (by first|exact map_at (by omega)|exact map_atZ (by omega) (by omega)) ?_|refine W.condT rfl ?_)
  refine (?_:WL _ _ _ _ _ _)
  dsimp only [St.put,Nat.reduceAdd]
  refine WL.vl rfl (WV.call rfl (callF Tryz.func91 rfl rfl) rfl rfl (rAlter_FS L[n].2.2.2 ⟨by omega,ha⟩)) ?_
  repeat (first|refine WL.nil ?_|refine WL.e1 rfl ?_)
  refine (?_:W _ _ _ _ _)
  dsimp only [St.put,Nat.reduceAdd]
  exact W.ret (fin1 rfl rfl rfl rfl)
theorem refE_len (st:List Int)(key:Int):∀ (L:List Nt)(out:List Sf),(refE st key out L).length=out.length+L.length
 | [],out=>rfl
 | n::r,out=>by
  show (refE st key (out++[refN st key out n]) r).length=_
  rw [refE_len st key r];simp;omega
theorem refE_take (st:List Int)(key:Int) {L:List Nt} {k:Nat} (h:k<L.length):refE st key [] (L.take (k+1))=refE st key [] (L.take k)++[refN st key (refE st key [] (L.take k)) L[k]]:=by
 have app:∀ (A B:List Nt)(out:List Sf),refE st key out (A++B)=refE st key (refE st key out A) B:=by
  intro A
  induction A with
  | nil=>intro B out;rfl
  | cons n r ih=>intro B out;exact ih B _
 rw [List.take_succ_eq_append_getElem h,app];rfl
theorem refE_acc {st:List Int} {key:Int} {L:List Nt} (hx:∀ n∈L,spX n.2.2.1 key=0):∀ x∈refE st key [] L,0≤x.2.2.2∧x.2.2.2≤3:=by
 have h:∀ (L:List Nt) (out:List Sf),(∀ n∈L,spX n.2.2.1 key=0)→(∀ x∈out,0≤x.2.2.2∧x.2.2.2≤3)→∀ x∈refE st key out L,0≤x.2.2.2∧x.2.2.2≤3:=by
  intro L
  induction L with
  | nil=>intro out _ h;exact h
  | cons n r ih =>
   intro out hx h
   refine ih _ (fun m hm=>hx m (by simp [hm])) fun x hx2=>?_
   rcases List.mem_append.1 hx2 with hx2|hx2
   ·exact h x hx2
   ·rw [List.mem_singleton] at hx2
    rw [hx2]
    exact (sngA_ref (st:=st) (out:=out) (hx n (by simp))).2
 exact h L [] hx (fun x h=>by cases h)
theorem spV_ltr {q key:Int} (h:spX q key=0):0≤(spV q key).1∧(spV q key).1≤6:=by
 have h1:=(spX_of h).1
 unfold sndX at h1
 split at h1
 ·rename_i h2
  exact(sndOk_of h2).1.1
 ·cases h1
theorem eng_no {p:Pce} {key:Int} (h0:pceE p=0)(hk:-4≤key∧key≤4) {k:Nat} (h:k<(notesR p p.evs.length).length)(hx:spX (notesR p p.evs.length)[k].2.2.1 key≠0):engX p key=10∧engL p key=[]:=by
 have hb:engB key (notesR p p.evs.length)=true:=by
  unfold engB
  rw [List.any_eq_true]
  exact⟨_,List.getElem_mem h,by simpa using hx⟩
 have e:engX p key=10:=by unfold engX;rw [if_pos h0,if_neg (by omega),if_pos hb]
 exact⟨e,if_neg (by rw [e];decide)⟩
theorem eng_yes {p:Pce} {key:Int} (h0:pceE p=0)(hk:-4≤key∧key≤4)(hx:∀ n∈notesR p p.evs.length,spX n.2.2.1 key=0):engX p key=0:=by
 have hb:engB key (notesR p p.evs.length)=false:=by
  unfold engB
  rw [List.any_eq_false]
  intro n hn
  simpa using hx n hn
 unfold engX
 rw [if_pos h0,if_neg (by omega),hb];rfl
theorem rEngrave_FS (p:Pce) (hO:PcOk p) (key:Int):Ctr Tryz.prog 22 [ePce p,.sc (.int .i64 key)] (.tu [.ls 4 ((engL p key).map eSf),.sc (.int .i64 (engX p key))]):=by
 have hn3:=hO.n3
 have hN:=rNotes_FS p hO
 by_cases h0:pceE p=0
 rotate_left
 ·have e1:engX p key=pceE p:=if_neg h0
  have e2:engL p key=[]:=if_neg (by rw [e1];exact h0)
  have e3:notesP p=[]:=if_neg h0
  rw [e2,e1]
  rw [e3] at hN
  obtain ⟨E,hE⟩:∃ E,pceE p=E:=⟨_,rfl⟩
  rw [hE] at hN h0 ⊢
  refine Ctr.intro Tryz.func22 rfl Tryz.ntmps22 (Nat.le_of_ble_eq_true rfl) (bd_all rfl) fun w0 F0=>?_;dsimp only [St.init,number,Nat.reduceAdd]
  repeat refine W.go rfl ?_
  refine (?_:WL _ _ _ _ _ _)
  dsimp only [St.put,Nat.reduceAdd]
  refine WL.vl rfl (WV.call rfl (callF Tryz.func67 rfl rfl) rfl rfl hN) ?_
  repeat (first|refine W.gob rfl ?_|refine WL.nil ?_|refine WL.nt rfl rfl rfl (by omega) ?_|refine WL.e1 rfl ?_|refine W.condT rfl ?_)
  refine (?_:W _ _ _ _ _)
  dsimp only [St.put,Nat.reduceAdd]
  refine W.tr (Tr.nilR (t:=4) 4 rfl) ?_
  exact W.ret (finN rfl rfl rfl rfl)
 have e3:notesP p=notesR p p.evs.length:=if_pos h0
 rw [h0,e3] at hN
 by_cases hk:key < -4∨4 < key
 ·have e1:engX p key=1:=by unfold engX;rw [if_pos h0,if_pos hk]
  have e2:engL p key=[]:=if_neg (by rw [e1];decide)
  rw [e2,e1]
  have hk2:key < -4∨(¬ key < -4∧key > 4):=by omega
  rcases hk2 with hk2|hk2
  all_goals
   refine Ctr.intro Tryz.func22 rfl Tryz.ntmps22 (Nat.le_of_ble_eq_true rfl) (bd_all rfl) fun w0 F0=>?_;dsimp only [St.init,number,Nat.reduceAdd]
   repeat refine W.go rfl ?_
   refine (?_:WL _ _ _ _ _ _)
   dsimp only [St.put,Nat.reduceAdd]
   refine WL.vl rfl (WV.call rfl (callF Tryz.func67 rfl rfl) rfl rfl hN) ?_
   repeat (first|refine W.gob rfl ?_|refine WL.nil ?_|refine WL.bt rfl rfl rfl (by omega) ?_|refine WL.bf rfl rfl rfl (by omega) ?_|refine WL.nf rfl rfl rfl (by omega) ?_|refine WL.e1 rfl ?_|refine WL.gyes rfl rfl rfl rfl ?_|refine WL.opno rfl rfl rfl rfl rfl rfl rfl ?_|refine W.condT rfl ?_|refine W.condF rfl ?_)
   refine (?_:W _ _ _ _ _)
   dsimp only [St.put,Nat.reduceAdd]
   refine W.tr (Tr.nilR (t:=4) 4 rfl) ?_
   exact W.ret (finN rfl rfl rfl rfl)
 have hk2:-4≤key∧key≤4:=by omega
 have hSt:=rStarts_FS p hO h0
 have hnl:=notesR_len hO h0
 have hno:=fun (k:Nat) h hx=>eng_no (k:=k) h0 hk2 h hx
 have hyes:=eng_yes h0 hk2
 have href:=fun hx=>(engL_ref (p:=p) (key:=key) hx).1
 have hml:=mea_length p.evs p.evs.length
 have hfl:(fstL (mea p.evs p.evs.length)).length≤420:=by unfold fstL;rw [List.length_map];omega
 obtain ⟨L,hL⟩:∃ L,notesR p p.evs.length=L:=⟨_,rfl⟩
 obtain ⟨st,hst⟩:∃ st,fstL (mea p.evs p.evs.length)=st:=⟨_,rfl⟩
 simp only [hL] at hno
 rw [hL] at hN hnl hyes href
 rw [hst] at hSt hfl href
 refine Ctr.intro Tryz.func22 rfl Tryz.ntmps22 (Nat.le_of_ble_eq_true rfl) (bd_all rfl) fun w0 F0=>?_;dsimp only [St.init,number,Nat.reduceAdd]
 repeat refine W.go rfl ?_
 refine (?_:WL _ _ _ _ _ _)
 dsimp only [St.put,Nat.reduceAdd]
 refine WL.vl rfl (WV.call rfl (callF Tryz.func67 rfl rfl) rfl rfl hN) ?_
 repeat (first|refine W.gob rfl ?_|refine WL.nil ?_|refine WL.bf rfl rfl rfl (by omega) ?_|refine WL.nf rfl rfl rfl (by omega) ?_|refine WL.e1 rfl ?_|refine WL.gyes rfl rfl rfl rfl ?_|refine W.condF rfl ?_)
 refine (?_:WL _ _ _ _ _ _)
 dsimp only [St.put,Nat.reduceAdd]
 refine WL.vl rfl (WV.call rfl (callF Tryz.func68 rfl rfl) rfl rfl hSt) ?_
 repeat (first|refine W.go rfl ?_|refine WL.ev rfl ?_)
 refine (?_:W _ _ _ _ _)
 dsimp only [St.put,Nat.reduceAdd]
 refine W.tr (Tr.nil (t:=9) 122 4 rfl rfl) ?_
 dsimp only [St.put,St.new,St.upd,Nat.reduceAdd]
 refine W.loop (fun k:Nat=>k≤L.length∧∀ n∈L.take k,spX n.2.2.1 key=0) (fun k=>⟨[(1,.sc (.int .i64 key)),(6,.ls 5 (L.map eNt)),(8,.ls 1 (st.map eInt)),(9,.sl 1),(10,.sc (.int .i64 k))],[(1,.row 122 4 ((refE st key [] (L.take k)).map eSf))],2⟩) (fun k=>L.length - k) 0 ⟨by omega,by simp⟩ (Tr.ren id (by repeat (first|exact trivial|refine ⟨⟨?_,?_⟩,?_⟩|rfl)) (by repeat (first|exact trivial|refine ⟨⟨?_,?_,?_⟩,?_⟩|rfl)) rfl) fun k hk=>?_
 obtain ⟨hk1,hgood⟩:=hk
 have hol:(refE st key [] (L.take k)).length=k:=by rw [refE_len];simp;omega
 by_cases hlt:k < L.length
 rotate_left
 ·obtain rfl:k=L.length:=by omega
  rw [List.take_length] at hgood
  have e1:=hyes hgood
  rw [e1,href e1,List.take_length]
  repeat (first|refine W.gob rfl ?_|refine WL.nil ?_|refine WL.bf rfl rfl rfl (by omega) ?_|refine WL.e1 rfl ?_|refine WL.len rfl rfl (by first|exact List.length_map _|exact List.length_replicate|rfl) ?_|refine W.condF rfl ?_)
  refine (?_:W _ _ _ _ _)
  dsimp only [St.put,Nat.reduceAdd]
  refine W.tr (Tr.freeze 1 rfl) ?_
  exact W.ret (finN rfl rfl rfl rfl)
 have hSp:=rSpell_FS L[k].2.2.1 key
 have htk:=refE_take st key hlt
 have hacc:=refE_acc (st:=st) hgood
 by_cases hx:spX L[k].2.2.1 key=0
 rotate_left
 ·obtain ⟨e1,e2⟩:=hno k hlt hx
  have hx10:=(spX_cases (q:=L[k].2.2.1) hk2).resolve_left hx
  rw [e1,e2]
  rw [hx10] at hSp
  repeat (first|refine W.gob rfl ?_|refine WL.nil ?_|refine WL.bt rfl rfl rfl (by omega) ?_|refine WL.e1 rfl ?_|refine WL.len rfl rfl (by first|exact List.length_map _|exact List.length_replicate|rfl) ?_|refine WL.idx rfl rfl (by omega) (by first|exact map_at (by omega)|exact map_atZ (by omega) (by omega)) ?_|refine W.condT rfl ?_)
  refine (?_:WL _ _ _ _ _ _)
  dsimp only [St.put,Nat.reduceAdd]
  refine WL.vl rfl (WV.call rfl (callF Tryz.func69 rfl rfl) rfl rfl hSp) ?_
  repeat (first|refine W.gob rfl ?_|refine WL.nil ?_|refine WL.nt rfl rfl rfl (by omega) ?_|refine WL.e1 rfl ?_|refine W.condT rfl ?_)
  refine (?_:W _ _ _ _ _)
  dsimp only [St.put,Nat.reduceAdd]
  refine W.tr (Tr.nilR (t:=4) 4 rfl) ?_
  exact W.ret (finN rfl rfl rfl rfl)
 have hgood2:∀ n∈L.take (k+1),spX n.2.2.1 key=0:=fun n hn=>by
  rw [List.take_succ_eq_append_getElem hlt] at hn
  rcases List.mem_append.1 hn with hn|hn
  ·exact hgood n hn
  ·rw [List.mem_singleton.1 hn];exact hx
 have hal:=spV_al hx
 have hlt6:=spV_ltr hx
 have hrn:refN st key (refE st key [] (L.take k)) L[k]=(L[k].1,(spV L[k].2.2.1 key).1,(spV L[k].2.2.1 key).2.2,if (spV L[k].2.2.1 key).2.1=frcR st key L[k].1 ((spV L[k].2.2.1 key).1,(spV L[k].2.2.1 key).2.2) (refE st key [] (L.take k)).reverse then 0 else accN (spV L[k].2.2.1 key).2.1):=rfl
 rw [hrn] at htk
 rw [hx] at hSp
 obtain ⟨sp,hsp⟩:∃ sp,spV L[k].2.2.1 key=sp:=⟨_,rfl⟩
 obtain ⟨R,hR⟩:∃ R,refE st key [] (L.take k)=R:=⟨_,rfl⟩
 rw [hsp,hR] at htk
 rw [hsp] at hSp hal hlt6
 rw [hR] at hol hacc ⊢
 have hRl:(R++[((L[k].1,sp.1,sp.2.2,0):Sf)]).length=k+1:=by rw [List.length_append,hol];rfl
 have hRk:(R++[((L[k].1,sp.1,sp.2.2,0):Sf)])[k]'(by omega)=(L[k].1,sp.1,sp.2.2,0):=by
  rw [List.getElem_append_right (by omega)];simp [hol]
 have hRt:(R++[((L[k].1,sp.1,sp.2.2,0):Sf)]).take k=R:=by
  rw [List.take_append_of_le_length (by omega),List.take_of_length_le (by omega)]
 have hFo:=rForce_FS (R++[((L[k].1,sp.1,sp.2.2,0):Sf)]) st key k (by omega) hk2 (by rw [hRt];exact fun x hx=>(hacc x hx).2) (by omega) (by omega)
 rw [hRk,hRt] at hFo
 have hfq:frcQ st key L[k].1 (atL (L[k].1,sp.1,sp.2.2,0)) R.reverse=frcR st key L[k].1 (sp.1,sp.2.2) R.reverse:=frcQ_eq hk2 hlt6
 rw [hfq] at hFo
 obtain ⟨F,hF⟩:∃ F,frcR st key L[k].1 (sp.1,sp.2.2) R.reverse=F:=⟨_,rfl⟩
 have hF:frcR st key L[k].1 (sp.1,sp.2.2) R.reverse=F:=hF
 rw [hF] at hFo htk
 repeat (first|refine W.gob rfl ?_|refine WL.nil ?_|refine WL.bt rfl rfl rfl (by omega) ?_|refine WL.e1 rfl ?_|refine WL.len rfl rfl (by first|exact List.length_map _|exact List.length_replicate|rfl) ?_|refine WL.idx rfl rfl (by omega) (by first|exact map_at (by omega)|exact map_atZ (by omega) (by omega)) ?_|refine W.condT rfl ?_)
 refine (?_:WL _ _ _ _ _ _)
 dsimp only [St.put,Nat.reduceAdd]
 refine WL.vl rfl (WV.call rfl (callF Tryz.func69 rfl rfl) rfl rfl hSp) ?_
 repeat (first|refine W.gob rfl ?_|refine WL.nil ?_|refine WL.nf rfl rfl rfl (by omega) ?_|refine WL.e1 rfl ?_|refine W.condF rfl ?_)
 refine (?_:W _ _ _ _ _)
 dsimp only [St.put,Nat.reduceAdd]
 refine W.dm [2] (by kernel_rfl) (by kernel_rfl) (by kernel_rfl) (by repeat constructor) ?_
 repeat (first|refine DMK.st rfl rfl ?_|refine DMK.idx rfl rfl (by omega) (by first|exact map_at (by omega)|exact map_atZ (by omega) (by omega)) ?_|refine DMK.s1 rfl (by kernel_rfl) rfl ?_|refine DMK.bd rfl rfl rfl (by repeat constructor) ?_|refine DMK.ap rfl rfl (by first|omega|(simp;done)|(simp;omega)) (by repeat constructor) ?_|refine DMK.nil ?_)
 repeat refine W.go rfl ?_
 refine (?_:W _ _ _ _ _)
 dsimp only [St.put,Nat.reduceAdd]
 refine W.tr (σ':=⟨[(1,.sc (.int .i64 key)),(6,.ls 5 (L.map eNt)),(8,.ls 1 (st.map eInt)),(9,.sl 1),(10,.sc (.int .i64 k)),(11,.pt 2 0 0)],[(1,.row 122 4 ((R++[((L[k].1,sp.1,sp.2.2,0):Sf)]).map eSf)),(2,.box 128 [.sc (.int .i64 sp.1),.sc (.int .i64 sp.2.1),.sc (.int .i64 sp.2.2)])],3⟩) (Tr.ren (fun q=>bif Nat.beq q 1 then 4 else q) (by repeat (first|exact trivial|refine ⟨⟨?_,?_⟩,?_⟩|rfl)) (by repeat (first|exact trivial|refine ⟨⟨?_,?_,?_⟩,?_⟩|rfl|exact congrArg (fun q=>some (AO.row _ _ q)) (by rw [List.map_append];rfl))) rfl) ?_
 refine W.drawK (by kernel_rfl) (by kernel_rfl) ?_
 repeat refine DK.st rfl ?_
 refine DK.vl rfl (WV.lend (truH _) rfl (callF Tryz.func70 rfl rfl) rfl rfl rfl truST hFo.g) ?_
 repeat (first|refine DK.st rfl ?_|refine DK.nil ?_)
 refine (?_:W _ _ _ _ _)
 dsimp only [St.put,Nat.reduceAdd]
 (refine W.cond rfl (fun hif=>?_) (fun hif=>?_)<;>(try simp only [decide_eq_true_eq,decide_eq_false_iff_not,Int.not_lt,Int.not_le,Bool.not_eq_true',Bool.not_eq_false'] at hif))
 ·have hne:¬ sp.2.1=F:=fun e=>hif e.symm
  rw [if_neg hne] at htk
  have hat:([[AV.sc (.int .i64 2)],[AV.sc (.int .i64 3)],[AV.sc (.int .i64 1)]]:List (List AV))[(sp.2.1+1).toNat]?=some [AV.sc (.int .i64 (accN sp.2.1))]:=by
   have h3:sp.2.1=-1∨sp.2.1=0∨sp.2.1=1:=by omega
   rcases h3 with h|h|h<;>rw [h]<;>rfl
  have hat2:((R++[((L[k].1,sp.1,sp.2.2,0):Sf)]).map eSf)[((k:Nat):Int).toNat]?=some (eSf (L[k].1,sp.1,sp.2.2,0)):=by
   rw [Int.toNat_natCast,List.getElem?_map,List.getElem?_eq_getElem (by omega),hRk];rfl
  have hset:((R++[((L[k].1,sp.1,sp.2.2,0):Sf)]).map eSf).set ((k:Nat):Int).toNat (putL 3 [.sc (.int .i64 (accN sp.2.1))] (eSf (L[k].1,sp.1,sp.2.2,0)))=(refE st key [] (L.take (k+1))).map eSf:=by
   rw [htk,Int.toNat_natCast,List.map_append,List.map_append,List.set_append_right _ _ (by rw [List.length_map];omega),List.length_map,hol,Nat.sub_self]
   rfl
  repeat (first|refine W.gob rfl ?_|refine WL.e1 rfl ?_|refine WL.ar rfl rfl (by unfold I64;omega) ?_|refine WL.ixs rfl rfl (by first|omega|(simp;done)|(simp;omega)) ?_)
  refine (?_:WL _ _ _ _ _ _)
  dsimp only [St.put,Nat.reduceAdd]
  refine WL.ldr rfl rfl hat rfl rfl ?_
  repeat (first|refine WL.e1 rfl ?_|refine WL.ixs rfl rfl (by first|omega|(simp;done)|(simp;omega)) ?_)
  refine (?_:WL _ _ _ _ _ _)
  dsimp only [St.put,Nat.reduceAdd]
  refine WL.sto rfl rfl rfl rfl hat2 (by show 3+1≤4;omega) ?_
  repeat (first|refine W.go rfl ?_|refine WL.nil ?_|refine WL.ev rfl ?_|refine WL.ar rfl rfl (by unfold I64;omega) ?_)
  dsimp only [St.put,Nat.reduceAdd]
  refine ⟨k+1,⟨by omega,hgood2⟩,by omega,?_⟩
  exact (Tr.ren (fun q=>q) (by repeat (first|exact trivial|refine ⟨⟨?_,?_⟩,?_⟩|rfl)) (by repeat (first|exact trivial|refine ⟨⟨?_,?_,?_⟩,?_⟩|rfl|exact congrArg (fun q=>some (AO.row _ _ q)) hset)) rfl)
 ·have heq:sp.2.1=F:=by first|exact hif.symm|omega
  rw [if_pos heq] at htk
  repeat (first|refine W.go rfl ?_|refine WL.ev rfl ?_|refine WL.ar rfl rfl (by unfold I64;omega) ?_)
  dsimp only [St.put,Nat.reduceAdd]
  refine ⟨k+1,⟨by omega,hgood2⟩,by omega,?_⟩
  rw [htk]
  exact (Tr.ren id (by repeat (first|exact trivial|refine ⟨⟨?_,?_⟩,?_⟩|rfl)) (by repeat (first|exact trivial|refine ⟨⟨?_,?_,?_⟩,?_⟩|rfl)) rfl)
end Go.Proofs.YtkgnmddakiagbaaGreatDoor
