/- The measures' firsts ascend; the number of a measure, counted in two ways: plain. -/
import Derived.Test.YtkgnmddakiagbaaGreatDoorEdPXq
set_option linter.unusedVariables false
set_option linter.unusedSimpArgs false
namespace Go.Proofs.YtkgnmddakiagbaaGreatDoor
open Go.RowKit
set_option maxRecDepth 100000
set_option maxHeartbeats 4000000
theorem rDcm_nat:∀ (n:Nat) (k:Nat),k≤n→k≤1000000000→Ctr Tryz.prog 82 [.sc (.int .i64 (k:Int))] (.sc (.string (bs (Lib.itoa k)))):=by
 intro n
 induction n with
 | zero =>
  intro k hk _
  obtain rfl:k=0:=by omega
  have hD:=rDec_FS ((0:Nat):Int) (by omega)
  obtain ⟨io,hio⟩:∃ z,Lib.itoa ((0:Nat):Int)=z:=⟨_,rfl⟩
  rw [hio] at hD ⊢
  refine Ctr.intro Tryz.func82 rfl Tryz.ntmps82 (Nat.le_of_ble_eq_true rfl) (bd_all rfl) fun w0 F0=>?_;dsimp only [St.init,number,Nat.reduceAdd]
  repeat (first|refine W.gob rfl ?_|refine WL.nil ?_|refine WL.bt rfl rfl rfl (by omega) ?_|refine WL.e1 rfl ?_|refine W.condT rfl ?_)
  refine (?_:WL _ _ _ _ _ _)
  dsimp only [St.put,Nat.reduceAdd]
  refine WL.vl rfl (WV.call rfl (callF Tryz.func128 rfl rfl) rfl rfl hD) ?_
  repeat (first|refine WL.nil ?_|refine WL.e1 rfl ?_)
  refine (?_:W _ _ _ _ _)
  dsimp only [St.put,Nat.reduceAdd]
  exact W.ret (fin1 rfl rfl rfl rfl)
 | succ n ih =>
  intro k hk hb
  by_cases h10:k < 10
  ·have hD:=rDec_FS (k:Int) (by omega)
   obtain ⟨io,hio⟩:∃ z,Lib.itoa (k:Int)=z:=⟨_,rfl⟩
   rw [hio] at hD ⊢
   refine Ctr.intro Tryz.func82 rfl Tryz.ntmps82 (Nat.le_of_ble_eq_true rfl) (bd_all rfl) fun w0 F0=>?_;dsimp only [St.init,number,Nat.reduceAdd]
   repeat (first|refine W.gob rfl ?_|refine WL.nil ?_|refine WL.bt rfl rfl rfl (by omega) ?_|refine WL.e1 rfl ?_|refine W.condT rfl ?_)
   refine (?_:WL _ _ _ _ _ _)
   dsimp only [St.put,Nat.reduceAdd]
   refine WL.vl rfl (WV.call rfl (callF Tryz.func128 rfl rfl) rfl rfl hD) ?_
   repeat (first|refine WL.nil ?_|refine WL.e1 rfl ?_)
   refine (?_:W _ _ _ _ _)
   dsimp only [St.put,Nat.reduceAdd]
   exact W.ret (fin1 rfl rfl rfl rfl)
  ·have hih:=ih (k/10) (by omega) (by omega)
   have hD:=rDec_FS ((k:Int) % 10) (by omega)
   have hil:=itoa_len (n:=((k/10:Nat):Int)) (by omega)
   have hil2:=itoa_len (n:=(k:Int) % 10) (by omega)
   have ht:=itoa_ten (k:Int) (by omega)
   have h1:=itoa_one ((k:Int) % 10) (by omega)
   rw [show (k:Int) % 10 % 10=(k:Int) % 10 by omega] at h1
   have e:((k/10:Nat):Int)=(k:Int)/10:=by omega
   rw [e] at hih hil
   rw [← h1] at ht
   rw [ht]
   obtain ⟨i1,hi1⟩:∃ z,Lib.itoa ((k:Int)/10)=z:=⟨_,rfl⟩
   obtain ⟨i2,hi2⟩:∃ z,Lib.itoa ((k:Int) % 10)=z:=⟨_,rfl⟩
   rw [hi1] at hih hil ⊢
   rw [hi2] at hD hil2 ⊢
   refine Ctr.intro Tryz.func82 rfl Tryz.ntmps82 (Nat.le_of_ble_eq_true rfl) (bd_all rfl) fun w0 F0=>?_;dsimp only [St.init,number,Nat.reduceAdd]
   repeat (first|refine W.gob rfl ?_|refine WL.nil ?_|refine WL.bf rfl rfl rfl (by omega) ?_|refine WL.e1 rfl ?_|refine WL.div rfl rfl (by omega) ?_|refine W.condF rfl ?_)
   refine (?_:WL _ _ _ _ _ _)
   dsimp only [St.put,Nat.reduceAdd]
   refine WL.vl rfl (WV.call rfl (callF Tryz.func82 rfl rfl) rfl rfl hih) ?_
   repeat (first|refine WL.e1 rfl ?_|refine WL.div rfl rfl (by omega) ?_)
   refine (?_:WL _ _ _ _ _ _)
   dsimp only [St.put,Nat.reduceAdd]
   refine WL.vl rfl (WV.call rfl (callF Tryz.func128 rfl rfl) rfl rfl hD) ?_
   repeat (first|refine WL.nil ?_|refine WL.e1 rfl ?_|refine WL.cat rfl rfl (by first|omega|(simp;done)|(simp;omega)) ?_)
   refine (?_:W _ _ _ _ _)
   dsimp only [St.put,Nat.reduceAdd]
   exact W.ret (fin1 rfl rfl rfl rfl)
theorem rDcm_FS (n:Int) (h:0≤n∧n≤1000000000):Ctr Tryz.prog 82 [.sc (.int .i64 n)] (.sc (.string (bs (Lib.itoa n)))):=by
 obtain ⟨k,rfl⟩:=Int.eq_ofNat_of_zero_le h.1
 exact rDcm_nat k k (Nat.le_refl _) (by omega)
end Go.Proofs.YtkgnmddakiagbaaGreatDoor
namespace Go.Proofs.YtkgnmddakiagbaaGreatDoor
open Go.RowKit
set_option maxRecDepth 100000
set_option maxHeartbeats 4000000
def altA(a:Int):Int:=if a=1 then 1 else if a=2 then -1 else 0
theorem rAlter_FS (a:Int) (h:0≤a∧a≤3):Ctr Tryz.prog 91 [.sc (.int .i64 a)] (.sc (.int .i64 (altA a))):=by
 have h4:a=0∨a=1∨a=2∨a=3:=by omega
 rcases h4 with h|h|h|h
 all_goals
  subst h
  refine Ctr.intro Tryz.func91 rfl Tryz.ntmps91 (Nat.le_of_ble_eq_true rfl) (bd_all rfl) fun w0 F0=>?_;dsimp only [St.init,number,Nat.reduceAdd]
  repeat (first|refine W.go rfl ?_|refine WL.ev rfl ?_|refine WL.ixs rfl rfl (by first|omega|(simp;done)|(simp;omega)) ?_)
  refine (?_:W _ _ _ _ _)
  dsimp only [St.put,Nat.reduceAdd]
  exact W.ret (fin1 rfl rfl rfl rfl)
def cntS (ev:Int)(l:List Int):Nat:=(l.filter fun x=>decide (x≤ev)).length
theorem cntS_take {ev:Int} {l:List Int} {k:Nat} (h:k<l.length):cntS ev (l.take (k+1))=if l[k]≤ev then cntS ev (l.take k)+1 else cntS ev (l.take k):=by
 unfold cntS
 rw [List.take_succ_eq_append_getElem h,List.filter_append,List.length_append]
 by_cases h2:l[k]≤ev<;>simp [h2]
theorem cntS_le(ev:Int)(l:List Int):cntS ev l≤l.length:=List.length_filter_le _ _
theorem rMeasure_FS (l:List Int) (hl:l.length≤1000000) (ev:Int):Ctr Tryz.prog 80 [.ls 1 (l.map eInt),.sc (.int .i64 ev)] (.sc (.int .i64 (cntS ev l:Nat))):=by
 refine Ctr.intro Tryz.func80 rfl Tryz.ntmps80 (Nat.le_of_ble_eq_true rfl) (bd_all rfl) fun w0 F0=>?_;dsimp only [St.init,number,Nat.reduceAdd]
 repeat refine W.go rfl ?_
 refine (?_:W _ _ _ _ _)
 refine W.loop (fun k:Nat=>k≤l.length) (fun k=>⟨[(0,.ls 1 (l.map eInt)),(1,.sc (.int .i64 ev)),(5,.sc (.int .i64 (cntS ev (l.take k):Nat))),(6,.sc (.int .i64 k))],[],0⟩) (fun k=>l.length - k) 0 (by omega) (Tr.ren id (by repeat (first|exact trivial|refine ⟨⟨?_,?_⟩,?_⟩|rfl)) (by repeat (first|exact trivial|refine ⟨⟨?_,?_,?_⟩,?_⟩|rfl)) rfl) fun k hk=>?_
 by_cases hlt:k < l.length
 ·have hc:=cntS_take (ev:=ev) hlt
  have hle:=cntS_le ev (l.take k)
  rw [List.length_take] at hle
  obtain ⟨x,hx⟩:∃ x,l[k]=x:=⟨_,rfl⟩
  rw [hx] at hc
  by_cases h2:x≤ev
  ·rw [if_pos h2] at hc
   rw [← hx] at h2
   repeat (first|refine W.gob rfl ?_|refine WL.nil ?_|refine WL.bt rfl rfl rfl (by omega) ?_|refine WL.e1 rfl ?_|refine WL.ar rfl rfl (by unfold I64;omega) ?_|refine WL.len rfl rfl (by first|exact List.length_map _|exact List.length_replicate|rfl) ?_|refine WL.idx rfl rfl (by omega) (by first|exact map_at (by omega)|exact map_atZ (by omega) (by omega)) ?_|refine W.condT rfl ?_)
   dsimp only [St.put,Nat.reduceAdd]
   refine ⟨k+1,by omega,by omega,?_⟩
   rw [hc]
   exact (Tr.ren id (by repeat (first|exact trivial|refine ⟨⟨?_,?_⟩,?_⟩|rfl)) (by repeat (first|exact trivial|refine ⟨⟨?_,?_,?_⟩,?_⟩|rfl)) rfl)
  ·rw [if_neg h2] at hc
   rw [← hx] at h2
   repeat (first|refine W.gob rfl ?_|refine WL.nil ?_|refine WL.bt rfl rfl rfl (by omega) ?_|refine WL.bf rfl rfl rfl (by omega) ?_|refine WL.e1 rfl ?_|refine WL.ar rfl rfl (by unfold I64;omega) ?_|refine WL.len rfl rfl (by first|exact List.length_map _|exact List.length_replicate|rfl) ?_|refine WL.idx rfl rfl (by omega) (by first|exact map_at (by omega)|exact map_atZ (by omega) (by omega)) ?_|refine W.condT rfl ?_|refine W.condF rfl ?_)
   dsimp only [St.put,Nat.reduceAdd]
   refine ⟨k+1,by omega,by omega,?_⟩
   rw [hc]
   exact (Tr.ren id (by repeat (first|exact trivial|refine ⟨⟨?_,?_⟩,?_⟩|rfl)) (by repeat (first|exact trivial|refine ⟨⟨?_,?_,?_⟩,?_⟩|rfl)) rfl)
 obtain rfl:k=l.length:=by omega
 rw [List.take_length]
 repeat (first|refine W.gob rfl ?_|refine WL.nil ?_|refine WL.bf rfl rfl rfl (by omega) ?_|refine WL.e1 rfl ?_|refine WL.len rfl rfl (by first|exact List.length_map _|exact List.length_replicate|rfl) ?_|refine W.condF rfl ?_)
 refine (?_:W _ _ _ _ _)
 dsimp only [St.put,Nat.reduceAdd]
 exact W.ret (fin1 rfl rfl rfl rfl)
end Go.Proofs.YtkgnmddakiagbaaGreatDoor
namespace Go.Proofs.YtkgnmddakiagbaaGreatDoor
open Go.RowKit
set_option maxRecDepth 100000
set_option maxHeartbeats 4000000
def shpL:List Int:=[3,0,4,1]
def fltL:List Int:=[6,2,5,1]
def sigR (key l:Int):Int:=if l∈shpL.take key.toNat then 1 else if l∈fltL.take (-key).toNat then -1 else 0
theorem mem_take_lt {l:List Int} {n k:Nat} (h:k<l.length)(hk:k<n):l[k]∈l.take n:=by
 have:(l.take n)[k]'(by rw [List.length_take];omega)=l[k]:=List.getElem_take
 rw [← this];exact List.getElem_mem _
theorem take_no {l:List Int} {k:Nat} {z:Int} (h:k<l.length)(h1:z ∉ l.take k)(h2:l[k]≠z):z ∉ l.take (k+1):=by
 rw [List.take_succ_eq_append_getElem h]
 intro hm
 rcases List.mem_append.1 hm with hm|hm
 ·exact h1 hm
 ·exact h2 (List.mem_singleton.1 hm).symm
theorem rSig_FS (key l:Int) (hk:-4≤key∧key≤4):Ctr Tryz.prog 143 [.sc (.int .i64 key),.sc (.int .i64 l)] (.sc (.int .i64 (sigR key l))):=by
 have hs4:shpL.length=4:=rfl
 have hf4:fltL.length=4:=rfl
 refine Ctr.intro Tryz.func143 rfl Tryz.ntmps143 (Nat.le_of_ble_eq_true rfl) (bd_all rfl) fun w0 F0=>?_;dsimp only [St.init,number,Nat.reduceAdd]
 repeat refine W.go rfl ?_
 refine (?_:W _ _ _ _ _)
 dsimp only [St.put,Nat.reduceAdd]
 refine W.tr (Tr.freeze 0 rfl) ?_
 refine W.tr (Tr.freeze 1 rfl) ?_
 refine W.loop (fun k:Nat=>k≤key.toNat∧l ∉ shpL.take k) (fun k=>⟨[(0,.sc (.int .i64 key)),(1,.sc (.int .i64 l)),(5,.ls 1 (shpL.map eInt)),(6,.ls 1 (fltL.map eInt)),(7,.sc (.int .i64 k))],[],0⟩) (fun k=>key.toNat - k) 0 ⟨Nat.zero_le _,by simp⟩ (Tr.ren id (by repeat (first|exact trivial|refine ⟨⟨?_,?_⟩,?_⟩|rfl)) (by repeat (first|exact trivial|refine ⟨⟨?_,?_,?_⟩,?_⟩|rfl)) rfl) fun k hk1=>?_
 obtain ⟨hk1,hno⟩:=hk1
 by_cases hlt:k < key.toNat
 ·have hkl:k < shpL.length:=by omega
  by_cases he:shpL[k]=l
  ·have hr:sigR key l=1:=if_pos (by rw [← he];exact mem_take_lt hkl hlt)
   rw [hr]
   repeat (first|refine W.gob rfl ?_|refine WL.nil ?_|refine WL.bt rfl rfl rfl (by omega) ?_|refine WL.e1 rfl ?_|refine WL.idx rfl rfl (by omega) (by first|exact map_at (by omega)|exact map_atZ (by omega) (by omega)) ?_|refine W.condT rfl ?_)
   refine (?_:W _ _ _ _ _)
   dsimp only [St.put,Nat.reduceAdd]
   exact W.ret (fin1 rfl rfl rfl rfl)
  ·have hno2:=take_no hkl hno he
   repeat (first|refine W.gob rfl ?_|refine WL.nil ?_|refine WL.bt rfl rfl rfl (by omega) ?_|refine WL.bf rfl rfl rfl (by omega) ?_|refine WL.e1 rfl ?_|refine WL.ar rfl rfl (by unfold I64;omega) ?_|refine WL.idx rfl rfl (by omega) (by first|exact map_at (by omega)|exact map_atZ (by omega) (by omega)) ?_|refine W.condT rfl ?_|refine W.condF rfl ?_)
   dsimp only [St.put,Nat.reduceAdd]
   refine ⟨k+1,⟨by omega,hno2⟩,by omega,?_⟩
   exact (Tr.ren id (by repeat (first|exact trivial|refine ⟨⟨?_,?_⟩,?_⟩|rfl)) (by repeat (first|exact trivial|refine ⟨⟨?_,?_,?_⟩,?_⟩|rfl)) rfl)
 obtain rfl:k=key.toNat:=by omega
 have hr1:sigR key l=if l∈fltL.take (-key).toNat then -1 else 0:=if_neg hno
 rw [hr1]
 repeat (first|refine W.gob rfl ?_|refine WL.nil ?_|refine WL.bf rfl rfl rfl (by omega) ?_|refine WL.e1 rfl ?_|refine W.condF rfl ?_)
 refine (?_:W _ _ _ _ _)
 dsimp only [St.put,Nat.reduceAdd]
 refine W.loop (fun k:Nat=>k≤(-key).toNat∧l ∉ fltL.take k) (fun k=>⟨[(0,.sc (.int .i64 key)),(1,.sc (.int .i64 l)),(6,.ls 1 (fltL.map eInt)),(8,.sc (.int .i64 k))],[],0⟩) (fun k=>(-key).toNat - k) 0 ⟨Nat.zero_le _,by simp⟩ (Tr.ren id (by repeat (first|exact trivial|refine ⟨⟨?_,?_⟩,?_⟩|rfl)) (by repeat (first|exact trivial|refine ⟨⟨?_,?_,?_⟩,?_⟩|rfl)) rfl) fun k hk1=>?_
 obtain ⟨hk1,hno3⟩:=hk1
 by_cases hlt2:k < (-key).toNat
 ·have hkl:k < fltL.length:=by omega
  by_cases he:fltL[k]=l
  ·have hr:(if l∈fltL.take (-key).toNat then (-1:Int) else 0)=-1:=if_pos (by rw [← he];exact mem_take_lt hkl hlt2)
   rw [hr]
   repeat (first|refine W.gob rfl ?_|refine WL.nil ?_|refine WL.bt rfl rfl rfl (by omega) ?_|refine WL.e1 rfl ?_|refine WL.neg rfl rfl (by unfold I64;omega) ?_|refine WL.idx rfl rfl (by omega) (by first|exact map_at (by omega)|exact map_atZ (by omega) (by omega)) ?_|refine W.condT rfl ?_)
   refine (?_:W _ _ _ _ _)
   dsimp only [St.put,Nat.reduceAdd]
   exact W.ret (fin1 rfl rfl rfl rfl)
  ·have hno2:=take_no hkl hno3 he
   repeat (first|refine W.gob rfl ?_|refine WL.nil ?_|refine WL.bt rfl rfl rfl (by omega) ?_|refine WL.bf rfl rfl rfl (by omega) ?_|refine WL.e1 rfl ?_|refine WL.ar rfl rfl (by unfold I64;omega) ?_|refine WL.neg rfl rfl (by unfold I64;omega) ?_|refine WL.idx rfl rfl (by omega) (by first|exact map_at (by omega)|exact map_atZ (by omega) (by omega)) ?_|refine W.condT rfl ?_|refine W.condF rfl ?_)
   dsimp only [St.put,Nat.reduceAdd]
   refine ⟨k+1,⟨by omega,hno2⟩,by omega,?_⟩
   exact (Tr.ren id (by repeat (first|exact trivial|refine ⟨⟨?_,?_⟩,?_⟩|rfl)) (by repeat (first|exact trivial|refine ⟨⟨?_,?_,?_⟩,?_⟩|rfl)) rfl)
 obtain rfl:k=(-key).toNat:=by omega
 rw [if_neg hno3]
 repeat (first|refine W.gob rfl ?_|refine WL.nil ?_|refine WL.bf rfl rfl rfl (by omega) ?_|refine WL.e1 rfl ?_|refine WL.neg rfl rfl (by unfold I64;omega) ?_|refine W.condF rfl ?_)
 refine (?_:W _ _ _ _ _)
 dsimp only [St.put,Nat.reduceAdd]
 exact W.ret (fin1 rfl rfl rfl rfl)
theorem sig_fin:((List.range 9).all fun a=>(List.range 7).all fun l=>decide (sigB ((a:Int)-4) (byteOf (l:Int))=sigR ((a:Int)-4) (l:Int)))=true:=by decide +kernel
theorem sigR_eq {key l:Int} (hk:-4≤key∧key≤4)(hl:0≤l∧l≤6):sigR key l=sigB key (byteOf l):=by
 obtain⟨a,ha⟩:=Int.eq_ofNat_of_zero_le (show 0≤key+4 by omega)
 obtain⟨b,rfl⟩:=Int.eq_ofNat_of_zero_le hl.1
 have h:=List.all_eq_true.1 (List.all_eq_true.1 sig_fin a (List.mem_range.2 (by omega))) b (List.mem_range.2 (by omega))
 have h:=of_decide_eq_true h
 rw [show (a:Int)-4=key by omega] at h
 exact h.symm
end Go.Proofs.YtkgnmddakiagbaaGreatDoor
namespace Go.Proofs.YtkgnmddakiagbaaGreatDoor
open Go.RowKit
def fstL(MS:List Me):List Int:=MS.map fun x=>x.1
theorem bumpM_fst (t:Int):∀ l:List Me,fstL (bumpM t l)=fstL l
 | []=>rfl
 | [x]=>rfl
 | x::y::r=>by
  have:=bumpM_fst t (y::r)
  show x.1::fstL (bumpM t (y::r))=x.1::fstL (y::r)
  rw [this]
theorem mea_fst (evs:List Ev)(k:Nat):fstL (mea evs (k+1))=if newM evs k then fstL (mea evs k)++[(k:Int)]else fstL (mea evs k):=by
 rw [mea,bumpM_fst]
 split
 ·simp [fstL]
 ·rfl
theorem mea_asc (evs:List Ev):∀ k,(fstL (mea evs k)).Pairwise (·<·)∧∀ x∈fstL (mea evs k),x<(k:Int)
 | 0=>by simp [mea,fstL]
 | k+1=>by
  obtain ⟨h1,h2⟩:=mea_asc evs k
  rw [mea_fst]
  split
  ·refine ⟨List.pairwise_append.2 ⟨h1,by simp,fun a ha b hb=>?_⟩,fun x hx=>?_⟩
   ·rw [List.mem_singleton]at hb;rw [hb];exact h2 a ha
   ·rcases List.mem_append.1 hx with hx|hx
    ·have:=h2 x hx;omega
    ·rw [List.mem_singleton]at hx;omega
  ·exact ⟨h1,fun x hx=>by have:=h2 x hx;omega⟩
theorem take_filter (ev:Int):∀ l:List Me,(fstL l).Pairwise (·<·)→(l.takeWhile fun x=>decide (x.1≤ev)).length=cntS ev (fstL l)
 | [],_=>rfl
 | x::r,h=>by
  have h:(x.1::fstL r).Pairwise (·<·):=h
  obtain⟨h1,h2⟩:=List.pairwise_cons.1 h
  have ih:=take_filter ev r h2
  by_cases hx:x.1≤ev
  ·rw [List.takeWhile_cons_of_pos (by simpa using hx)]
   show _=((x.1::fstL r).filter fun y=>decide (y≤ev)).length
   rw [List.filter_cons_of_pos (by simpa using hx),List.length_cons,List.length_cons,ih]
   rfl
  ·rw [List.takeWhile_cons_of_neg (by simpa using hx)]
   show _=((x.1::fstL r).filter fun y=>decide (y≤ev)).length
   rw [List.filter_cons_of_neg (by simpa using hx)]
   have:(fstL r).filter (fun y=>decide (y≤ev))=[]:=by
    rw [List.filter_eq_nil_iff]
    intro y hy
    have:=h1 y hy
    simp;omega
   rw [this];rfl
theorem nextF_cnt {MS:List Me} {ev:Int} {m:Nat} (h:(fstL MS).Pairwise (·<·))(hm:m≤MS.length)(hl:∀ x∈MS.take m,x.1≤ev):nextF MS ev m=cntS ev (fstL MS):=by
 have e:fstL MS=fstL (MS.take m)++fstL (MS.drop m):=by unfold fstL;rw [← List.map_append,List.take_append_drop]
 have h2:(fstL (MS.drop m)).Pairwise (·<·):=by
  rw [e]at h;exact (List.pairwise_append.1 h).2.1
 unfold nextF
 rw [take_filter ev _ h2,e]
 unfold cntS
 rw [List.filter_append,List.length_append]
 have:(fstL (MS.take m)).filter (fun y=>decide (y≤ev))=fstL (MS.take m):=by
  rw [List.filter_eq_self]
  intro y hy
  obtain⟨x,hx,rfl⟩:=List.mem_map.1 hy
  simpa using hl x hx
 rw [this]
 simp [fstL,List.length_take]
 omega
theorem cnt_take {MS:List Me} {ev:Int} (h:(fstL MS).Pairwise (·<·)):∀ x∈MS.take (cntS ev (fstL MS)),x.1≤ev:=by
 intro x hx
 rw [← take_filter ev MS h] at hx
 have e:MS.take (MS.takeWhile fun x=>decide (x.1≤ev)).length=MS.takeWhile fun x=>decide (x.1≤ev):=List.prefix_iff_eq_take.1 (List.takeWhile_prefix _) |>.symm
 rw [e] at hx
 have:=List.all_eq_true.1 (List.all_takeWhile (p:=fun x:Me=>decide (x.1≤ev)) (l:=MS)) x hx
 simpa using this
theorem mAt_cnt {MS:List Me} (h:(fstL MS).Pairwise (· < ·)):∀ k,mAt MS (k+1)=cntS k (fstL MS)
 | 0=>nextF_cnt h (Nat.zero_le _) (by simp [mAt])
 | k+1=>by
  have ih:=mAt_cnt h k
  show nextF MS ((k+1:Nat):Int) (mAt MS (k+1))=_
  rw [ih]
  refine nextF_cnt h ?_ fun x hx=>?_
  ·have:=cntS_le k (fstL MS);simpa [fstL]using this
  ·have:=cnt_take h x hx;omega
end Go.Proofs.YtkgnmddakiagbaaGreatDoor
