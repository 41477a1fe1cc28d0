/- A book's text: program and reference, and the law BookSaves. BLD -/
import Derived.Test.YtgelfflighgajaaGreatDoorBk1Sq
import Derived.Test.YtgelfflighgajaaGreatDoorW11Sq
set_option linter.unusedVariables false
set_option linter.unusedSimpArgs false
namespace Go.Proofs.YtgelfflighgajaaGreatDoor
open Go.RowKit
set_option maxRecDepth 100000
set_option maxHeartbeats 8000000
theorem rBkCopy_FS (b:List En) (hB:BkOk b):Ctr Tryz.prog 23 [eBk b] (eBk b):=by
 have hn:=hB.n
 refine Ctr.intro Tryz.func23 rfl Tryz.ntmps23 (Nat.le_of_ble_eq_true rfl) (bd_all rfl) fun w0 F0=>?_;dsimp only [St.init,number,Nat.reduceAdd]
 repeat refine W.go rfl ?_
 refine (?_:W _ _ _ _ _)
 dsimp only [St.put,Nat.reduceAdd]
 refine W.tr (Tr.nilBox (k:=2) (j:=0) 95 5 rfl rfl rfl rfl) ?_
 refine W.loop (fun k:Nat=>k≤b.length) (fun k=>⟨[(1,.pt 0 0 0),(2,.pt 1 0 0),(3,.pt 2 0 0),(4,.sc (.int .i64 k))],[(0,.box 48 [.ls 5 (b.map eEn)]),(1,.box 48 [.sc (.slice none 0 0)]),(2,.box 48 [.sl 3]),(3,.row 95 5 ((b.take k).map eEn))],4⟩) (fun k=>b.length - k) 0 (by omega) (Tr.ren id (by repeat (first|exact trivial|refine ⟨⟨?_,?_⟩,?_⟩|rfl)) (by repeat (first|exact trivial|refine ⟨⟨?_,?_,?_⟩,?_⟩|rfl)) rfl) fun k hk=>?_
 by_cases hlt:k < b.length
 ·have hO:=hB.p k hlt
  repeat (first|refine W.gob rfl ?_|refine WL.nil ?_|refine WL.bt rfl rfl rfl (by omega) ?_|refine WL.e1 rfl ?_|refine WL.len rfl rfl (by first|exact List.length_map _|exact List.length_replicate|rfl) ?_|refine WL.idx rfl rfl (by omega) (by first|exact map_at (by omega)|exact map_atZ (by omega) (by omega)) ?_|refine W.condT rfl ?_)
  refine (?_:WL _ _ _ _ _ _)
  dsimp only [St.put,Nat.reduceAdd]
  refine WL.vl rfl (WV.call rfl (callF Tryz.func17 rfl rfl) rfl rfl (pcCopy_FS b[k].p hO)) ?_
  repeat (first|refine W.go rfl ?_|refine WL.ev rfl ?_|refine WL.ar rfl rfl (by unfold I64;omega) ?_|refine WL.app rfl rfl rfl (by first|omega|(simp;done)|(simp;omega)) ?_)
  dsimp only [St.put,Nat.reduceAdd]
  refine ⟨k+1,by omega,by omega,?_⟩
  exact (Tr.ren (fun q=>bif Nat.beq q 3 then 6 else q) (by repeat (first|exact trivial|refine ⟨⟨?_,?_⟩,?_⟩|rfl)) (by repeat (first|exact trivial|refine ⟨⟨?_,?_,?_⟩,?_⟩|rfl|exact congrArg (fun q=>some (AO.row _ _ q)) (take_map_succ hlt))) rfl)
 ·obtain rfl:k=b.length:=by omega
  rw [List.take_length]
  repeat (first|refine W.gob rfl ?_|refine WL.nil ?_|refine WL.bf rfl rfl rfl (by omega) ?_|refine WL.e1 rfl ?_|refine WL.len rfl rfl (by first|exact List.length_map _|exact List.length_replicate|rfl) ?_|refine W.condF rfl ?_)
  refine (?_:W _ _ _ _ _)
  dsimp only [St.put,Nat.reduceAdd]
  refine W.tr (Tr.freeze 3 rfl) ?_
  exact W.ret (fin_cell rfl rfl rfl rfl rfl rfl rfl rfl)
end Go.Proofs.YtgelfflighgajaaGreatDoor
namespace Go.Proofs.YtgelfflighgajaaGreatDoor
open Go.RowKit
set_option maxHeartbeats 8000000
set_option maxRecDepth 100000
def bigL:List En→Nat→Bool
 | [],n=>decide (200<(n:Int))
 | e::r,n=>longB e.p || (decide (1000<(e.t.length:Int)) || bigL r (n+e.p.evs.length))
def evN (l:List En):Nat:=(l.map fun e=>e.p.evs.length).sum
def bigT (b:List En):Bool:=decide (70<(b.length:Int)) || bigL b 0
theorem bigL_ok:∀ {l:List En} {n:Nat},bigL l n=false→∀ k (h:k<l.length),longB l[k].p=false∧l[k].t.length≤1000
 | [],n,_,k,h=>by simp at h
 | e::r,n,hb,k,h=>by
  simp only [bigL,Bool.or_eq_false_iff,decide_eq_false_iff_not] at hb
  cases k with
  | zero=>exact ⟨hb.1,by have:=hb.2.1;simp only [List.getElem_cons_zero];omega⟩
  | succ k=>exact bigL_ok hb.2.2 k (by simpa using h)
theorem bkOk_of {b:List En} (h:bigT b=false):BkOk b:=by
 simp only [bigT,Bool.or_eq_false_iff,decide_eq_false_iff_not] at h
 exact ⟨by omega,fun k hk=>pcOk_of3 (bigL_ok h.2 k hk).1,fun k hk=>(bigL_ok h.2 k hk).2⟩
theorem evN_take {b:List En} {k:Nat} (h:k<b.length):evN (b.take (k+1))=evN (b.take k)+b[k].p.evs.length:=by
 unfold evN
 rw [List.take_succ_eq_append_getElem h,List.map_append,List.sum_append]
 simp only [List.map_cons,List.map_nil,List.sum_cons,List.sum_nil,Nat.add_zero]
theorem bigL_drop {b:List En} {k n:Nat} (h:k<b.length):bigL (b.drop k) n=(longB b[k].p || (decide (1000<(b[k].t.length:Int)) || bigL (b.drop (k+1)) (n+b[k].p.evs.length))):=by
 rw [List.drop_eq_getElem_cons h];rfl
theorem bigBk_FS (b:List En):Ctr Tryz.prog 21 [eBk b] (.sc (.bool (bigT b))):=by
 by_cases hn:70 < (b.length:Int)
 ·refine Ctr.intro Tryz.func21 rfl Tryz.ntmps21 (Nat.le_of_ble_eq_true rfl) (bd_all rfl) fun w0 F0=>?_;dsimp only [St.init,number,Nat.reduceAdd]
  repeat (first|refine W.gob rfl ?_|refine WL.nil ?_|refine WL.bt rfl rfl rfl (by omega) ?_|refine WL.e1 rfl ?_|refine WL.len rfl rfl (by first|exact List.length_map _|exact List.length_replicate|rfl) ?_|refine W.condT rfl ?_)
  refine (?_:W _ _ _ _ _)
  dsimp only [St.put,Nat.reduceAdd]
  exact W.ret (fin1 rfl rfl (sc_bool (by unfold bigT;rw [decide_eq_true hn];rfl)) rfl)
 refine Ctr.intro Tryz.func21 rfl Tryz.ntmps21 (Nat.le_of_ble_eq_true rfl) (bd_all rfl) fun w0 F0=>?_;dsimp only [St.init,number,Nat.reduceAdd]
 repeat (first|refine W.gob rfl ?_|refine WL.nil ?_|refine WL.bf rfl rfl rfl (by omega) ?_|refine WL.e1 rfl ?_|refine WL.len rfl rfl (by first|exact List.length_map _|exact List.length_replicate|rfl) ?_|refine W.condF rfl ?_)
 refine (?_:W _ _ _ _ _)
 dsimp only [St.put,Nat.reduceAdd]
 refine W.loop (fun k:Nat=>k≤b.length∧evN (b.take k)≤60*k∧bigL (b.drop k) (evN (b.take k))=bigL b 0) (fun k=>⟨[(1,.pt 0 0 0),(3,.sc (.int .i64 (evN (b.take k)))),(4,.sc (.int .i64 k))],[(0,.box 48 [.ls 5 (b.map eEn)])],1⟩) (fun k=>b.length - k) 0 ⟨Nat.zero_le _,by simp [evN],by simp [evN]⟩ (Tr.ren id (by repeat (first|exact trivial|refine ⟨⟨?_,?_⟩,?_⟩|rfl)) (by repeat (first|exact trivial|refine ⟨⟨?_,?_,?_⟩,?_⟩|rfl)) rfl) fun k hk=>?_
 obtain ⟨hk,hs,hd⟩:=hk
 by_cases hlt:k < b.length
 rotate_left
 ·obtain rfl:k=b.length:=by omega
  rw [List.drop_length,List.take_length] at hd
  rw [List.take_length] at hs ⊢
  repeat (first|refine W.gob rfl ?_|refine WL.nil ?_|refine WL.bf rfl rfl rfl (by omega) ?_|refine WL.e1 rfl ?_|refine WL.len rfl rfl (by first|exact List.length_map _|exact List.length_replicate|rfl) ?_|refine W.condF rfl ?_)
  refine (?_:W _ _ _ _ _)
  dsimp only [St.put,Nat.reduceAdd]
  refine W.ret (fin1 rfl rfl (sc_bool ?_) rfl)
  unfold bigT
  rw [decide_eq_false hn,Bool.false_or,← hd]
  unfold bigL
  first|rfl|(rw [decide_eq_decide];omega)
 have hgd:=bigL_drop (n:=evN (b.take k)) hlt
 repeat (first|refine W.gob rfl ?_|refine WL.nil ?_|refine WL.bt rfl rfl rfl (by omega) ?_|refine WL.e1 rfl ?_|refine WL.len rfl rfl (by first|exact List.length_map _|exact List.length_replicate|rfl) ?_|refine WL.idx rfl rfl (by omega) (by first|exact map_at (by omega)|exact map_atZ (by omega) (by omega)) ?_|refine W.condT rfl ?_)
 refine (?_:WL _ _ _ _ _ _)
 dsimp only [St.put,Nat.reduceAdd]
 refine WL.vl rfl (WV.call rfl (callF Tryz.func14 rfl rfl) rfl rfl (long_FS b[k].p)) ?_
 repeat refine WL.e1 rfl ?_
 refine (?_:WL _ _ _ _ _ _)
 dsimp only [St.put,Nat.reduceAdd]
 refine WL.partG rfl rfl rfl rfl (fun hp=>?_) (fun hp=>?_)
 ·repeat (first|refine W.gob rfl ?_|refine WL.nil ?_|refine WL.e1 rfl ?_|refine WL.opno rfl rfl rfl rfl rfl rfl rfl ?_|refine W.condT rfl ?_)
  refine (?_:W _ _ _ _ _)
  dsimp only [St.put,Nat.reduceAdd]
  refine W.ret (fin1 rfl rfl (sc_bool ?_) rfl)
  unfold bigT
  rw [decide_eq_false hn,Bool.false_or,← hd,hgd,hp];rfl
 rw [hp,Bool.false_or] at hgd
 by_cases ht:1000 < (b[k].t.length:Int)
 ·repeat (first|refine W.gob rfl ?_|refine WL.nil ?_|refine WL.bt rfl rfl rfl (by omega) ?_|refine WL.e1 rfl ?_|refine WL.gyes rfl rfl rfl rfl ?_|refine WL.len rfl rfl (by first|exact List.length_map _|exact List.length_replicate|rfl) ?_|refine WL.idx rfl rfl (by omega) (by first|exact map_at (by omega)|exact map_atZ (by omega) (by omega)) ?_|refine W.condT rfl ?_)
  refine (?_:W _ _ _ _ _)
  dsimp only [St.put,Nat.reduceAdd]
  refine W.ret (fin1 rfl rfl (sc_bool ?_) rfl)
  unfold bigT
  rw [decide_eq_false hn,Bool.false_or,← hd,hgd,decide_eq_true ht];rfl
 rw [decide_eq_false ht,Bool.false_or] at hgd
 have hev:b[k].p.evs.length≤60:=by
  unfold longB at hp
  simp only [Bool.or_eq_false_iff,decide_eq_false_iff_not] at hp
  omega
 have hst:=evN_take hlt
 repeat (first|refine W.gob rfl ?_|refine WL.nil ?_|refine WL.bf rfl rfl rfl (by omega) ?_|refine WL.e1 rfl ?_|refine WL.gyes rfl rfl rfl rfl ?_|refine WL.ar rfl rfl (by unfold I64;omega) ?_|refine WL.len rfl rfl (by first|exact List.length_map _|exact List.length_replicate|rfl) ?_|refine WL.idx rfl rfl (by omega) (by first|exact map_at (by omega)|exact map_atZ (by omega) (by omega)) ?_|refine W.condF rfl ?_)
 dsimp only [St.put,Nat.reduceAdd]
 refine ⟨k+1,⟨by omega,by omega,by rw [hst,← hgd,hd]⟩,by omega,?_⟩
 rw [hst]
 exact (Tr.ren id (by repeat (first|exact trivial|refine ⟨⟨?_,?_⟩,?_⟩|rfl)) (by repeat (first|exact trivial|refine ⟨⟨?_,?_,?_⟩,?_⟩|rfl)) rfl)
end Go.Proofs.YtgelfflighgajaaGreatDoor
namespace Go.Proofs.YtgelfflighgajaaGreatDoor
open Go.RowKit
set_option maxRecDepth 100000
set_option maxHeartbeats 8000000
def enT (e:En):List UInt8:=[116,105,116,108,101,32]++e.t++[10]++wrT e.s e.p++[101,110,100,10]
def savN (b:List En) (i:Nat):List UInt8:=match b[i]? with
 | some e=>enT e
 | none=>[]
def savB (b:List En):Nat→List UInt8
 | 0=>[]
 | k+1=>savB b k++savN b k
def savT (b:List En):List UInt8:=if bkE b=0 then savB b b.length else []
theorem savN_at {b:List En} {i:Nat} (h:i<b.length):savN b i=enT b[i]:=by unfold savN;rw [List.getElem?_eq_getElem h]
theorem ensE_zero {b:List En}:∀ {l:List En} {i:Nat},ensE b i l=0→∀ k (h:k<l.length),enE b (i+k) l[k]=0
 | [],_,_,k,h=>by simp at h
 | e::r,i,h0,k,h=>by
  have h1:enE b i e=0:=by
   by_cases h2:enE b i e=0
   ·exact h2
   ·have e1:ensE b i (e::r)=enE b i e:=if_neg h2
    rw [← e1];exact h0
  have e1:ensE b i (e::r)=ensE b (i+1) r:=if_pos h1
  cases k with
  | zero=>exact h1
  | succ k =>
   have:=ensE_zero (e1 ▸ h0) k (by simpa using h)
   rw [show i+1+k=i+(k+1) by omega] at this
   simpa using this
theorem bkE_zero {b:List En} (h:bkE b=0):b.length≤64∧∀ k (h:k<b.length),enE b k b[k]=0:=by
 unfold bkE at h
 by_cases h1:64<b.length
 ·rw [if_pos h1] at h;omega
 ·rw [if_neg h1] at h
  refine ⟨by omega,fun k hk=>?_⟩
  have:=ensE_zero h k hk
  simpa using this
theorem enE_zero {b:List En} {i:Nat} {e:En} (h:enE b i e=0):(1≤e.s∧e.s≤4)∧pceE e.p=0∧lksR e.s e.p=[]:=by
 unfold enE at h
 by_cases h1:ttlOk e.t=false∨ttlN b e.t<i
 ·rw [if_pos h1] at h;omega
 rw [if_neg h1] at h
 by_cases h2:1≤e.s∧e.s≤4
 rotate_left
 ·rw [if_pos h2] at h;omega
 rw [if_neg (fun k=>k h2)] at h
 by_cases h3:pceE e.p=0
 rotate_left
 ·rw [if_pos h3] at h;exact absurd h h3
 rw [if_neg (fun k=>k h3)] at h
 by_cases h4:lksR e.s e.p=[]
 ·exact ⟨h2,h3,h4⟩
 ·rw [if_neg h4] at h;omega
theorem bigL_sum:∀ {l:List En} {n:Nat},bigL l n=false→n+evN l≤200
 | [],n,h=>by
  simp only [bigL,decide_eq_false_iff_not] at h
  simp only [evN,List.map_nil,List.sum_nil];omega
 | e::r,n,h=>by
  simp only [bigL,Bool.or_eq_false_iff] at h
  have:=bigL_sum h.2.2
  unfold evN at this ⊢
  simp only [List.map_cons,List.sum_cons]
  omega
theorem evN_of {b:List En} (h:bigT b=false):evN b≤200:=by
 simp only [bigT,Bool.or_eq_false_iff] at h
 have:=bigL_sum h.2
 omega
theorem evN_le (b:List En) (k:Nat):evN (b.take k)≤evN b:=by
 have e:evN b=evN (b.take k)+evN (b.drop k):=by
  unfold evN
  rw [← List.sum_append,← List.map_append,List.take_append_drop]
 omega
theorem wrT_len {s:Int} (hs:1≤s∧s≤4) {p:Pce} (hO:PcOk p) (h0:pceE p=0) (hl:lksR s p=[]):wrX s p=0∧(wrT s p).length≤1219+1000001*p.evs.length:=by
 have hE:=(lks_ok hs h0).2
 rw [(wr_ok hE hl).1,(wr_ok hE hl).2]
 refine ⟨rfl,?_⟩
 have h1:=bodyW_len hs hO h0 p.evs.length (Nat.le_refl _)
 have h2:=snmT_len s
 have h3:=fmA_len p.cs p.st
 unfold hdW
 simp only [List.length_append,List.length_cons,List.length_nil];omega
theorem enT_len (e:En):(enT e).length=11+e.t.length+(wrT e.s e.p).length:=by
 unfold enT
 simp only [List.length_append,List.length_cons,List.length_nil];omega
theorem savB_len {b:List En} (hO:BkOk b) (h0:bkE b=0):∀ k,k≤b.length→(savB b k).length≤2230*k+1000001*evN (b.take k)
 | 0,_=>by simp [savB]
 | k+1,h=>by
  have hlt:k<b.length:=by omega
  have h1:=savB_len hO h0 k (by omega)
  obtain ⟨hs,hp,hl⟩:=enE_zero ((bkE_zero h0).2 k hlt)
  have h2:=(wrT_len hs (hO.p k hlt) hp hl).2
  have h3:=hO.t k hlt
  have h4:=evN_take hlt
  have h5:=enT_len b[k]
  unfold savB
  rw [savN_at hlt,List.length_append]
  omega
end Go.Proofs.YtgelfflighgajaaGreatDoor
namespace Go.Proofs.YtgelfflighgajaaGreatDoor
open Go.RowKit
set_option maxRecDepth 100000
set_option maxHeartbeats 8000000
theorem pSave_G0 (b:List En) (hB:BkOk b) (hne:b.length=0):Ctg tabB Tryz.prog 22 [eBk b] (.tu [.sc (.string (bs (savT b))),.sc (.int .i64 (bkE b))]):=by
 have hb:b=[]:=List.eq_nil_of_length_eq_zero hne
 have hC:=pBkCheck_FS b hB
 have e0:bkE b=0:=by rw [hb];rfl
 have eT:savT b=[]:=by rw [hb];rfl
 rw [eT,e0]
 rw [e0] at hC
 refine Ctg.intro stabB Tryz.func22 rfl Tryz.ntmps22 (Nat.le_of_ble_eq_true rfl) (bd_all rfl) fun w0 F0 hB=>?_;dsimp only [St.init,number,Nat.reduceAdd]
 repeat refine W.go rfl ?_
 refine (?_:WL _ _ _ _ _ _)
 dsimp only [St.put,Nat.reduceAdd]
 refine WL.vl rfl (WV.call rfl (callF Tryz.func56 rfl rfl) rfl rfl hC) ?_
 repeat (first|refine W.gob rfl ?_|refine WL.nil ?_|refine WL.nf rfl rfl rfl (by omega) ?_|refine WL.e1 rfl ?_|refine WL.len rfl rfl (by first|exact List.length_map _|exact List.length_replicate|rfl) ?_|refine W.condF rfl ?_)
 refine (?_:W _ _ _ _ _)
 dsimp only [St.put,Nat.reduceAdd]
 refine W.loop (fun k:Nat=>k=0) (fun k=>⟨[(5,.pt 1 0 0),(16,.ls 5 (b.map eEn)),(17,.sc (.int .i64 b.length)),(18,.sc (.int .i64 k))],[(1,.box 109 [.sc (.pointer none),.sc (.slice none 0 0)])],2⟩) (fun k=>k) 0 rfl (Tr.ren id (by repeat (first|exact trivial|refine ⟨⟨?_,?_⟩,?_⟩|rfl)) (by repeat (first|exact trivial|refine ⟨⟨?_,?_,?_⟩,?_⟩|rfl)) rfl) fun k hk=>?_
 subst hk
 repeat (first|refine W.gob rfl ?_|refine WL.nil ?_|refine WL.bf rfl rfl rfl (by omega) ?_|refine W.condF rfl ?_)
 refine (?_:WL _ _ _ _ _ _)
 dsimp only [St.put,Nat.reduceAdd]
 refine WL.vl rfl (WV.box2 rfl (callF Tryz.func59 rfl rfl) rfl rfl fun w b=>bldS0 w b _) ?_
 repeat (first|refine WL.nil ?_|refine WL.e1 rfl ?_)
 refine (?_:W _ _ _ _ _)
 dsimp only [St.put,Nat.reduceAdd]
 exact W.ret (fin2 rfl rfl rfl rfl rfl rfl rfl)
theorem pSave_G1 (b:List En) (hB:BkOk b) (hev:evN b≤200) (hne:0 < b.length):Ctg tabB Tryz.prog 22 [eBk b] (.tu [.sc (.string (bs (savT b))),.sc (.int .i64 (bkE b))]):=by
 have hn:=hB.n
 have hBt:=hB.t
 have hBp:=hB.p
 have hC:=pBkCheck_FS b hB
 by_cases h0:bkE b=0
 rotate_left
 ·have eT:savT b=[]:=if_neg h0
  rw [eT]
  obtain ⟨E,hE⟩:∃ E,bkE b=E:=⟨_,rfl⟩
  rw [hE] at h0 hC ⊢
  refine Ctg.intro stabB Tryz.func22 rfl Tryz.ntmps22 (Nat.le_of_ble_eq_true rfl) (bd_all rfl) fun w0 F0 hB=>?_;dsimp only [St.init,number,Nat.reduceAdd]
  repeat refine W.go rfl ?_
  refine (?_:WL _ _ _ _ _ _)
  dsimp only [St.put,Nat.reduceAdd]
  refine WL.vl rfl (WV.call rfl (callF Tryz.func56 rfl rfl) rfl rfl hC) ?_
  repeat (first|refine W.gob rfl ?_|refine WL.nil ?_|refine WL.nt rfl rfl rfl (by omega) ?_|refine WL.e1 rfl ?_|refine W.condT rfl ?_)
  refine (?_:W _ _ _ _ _)
  dsimp only [St.put,Nat.reduceAdd]
  exact W.ret (fin2 rfl rfl rfl rfl rfl rfl rfl)
 have eT:savT b=savB b b.length:=if_pos h0
 have hEn:=(bkE_zero h0).2
 have hlen:=savB_len hB h0
 rw [eT,h0]
 rw [h0] at hC
 refine Ctg.intro stabB Tryz.func22 rfl Tryz.ntmps22 (Nat.le_of_ble_eq_true rfl) (bd_all rfl) fun w0 F0 hB=>?_;dsimp only [St.init,number,Nat.reduceAdd]
 repeat refine W.go rfl ?_
 refine (?_:WL _ _ _ _ _ _)
 dsimp only [St.put,Nat.reduceAdd]
 refine WL.vl rfl (WV.call rfl (callF Tryz.func56 rfl rfl) rfl rfl hC) ?_
 repeat (first|refine W.gob rfl ?_|refine WL.nil ?_|refine WL.nf rfl rfl rfl (by omega) ?_|refine WL.e1 rfl ?_|refine WL.len rfl rfl (by first|exact List.length_map _|exact List.length_replicate|rfl) ?_|refine W.condF rfl ?_)
 refine (?_:W _ _ _ _ _)
 dsimp only [St.put,Nat.reduceAdd]
 first|refine W.tr (Tr.bld 1 5 rfl) ?_|refine WL.tr (Tr.bld 1 5 rfl) ?_
 dsimp only [St.upd]
 refine (?_:W _ _ _ _ _)
 refine W.loop (fun k:Nat=>k≤b.length) (fun k=>⟨[(5,.pt 1 0 0),(16,.ls 5 (b.map eEn)),(17,.sc (.int .i64 b.length)),(18,.sc (.int .i64 k))],[(1,.bld 109 5 (savB b k))],2⟩) (fun k=>b.length - k) 0 (by omega) (Tr.ren id (by repeat (first|exact trivial|refine ⟨⟨?_,?_⟩,?_⟩|rfl)) (by repeat (first|exact trivial|refine ⟨⟨?_,?_,?_⟩,?_⟩|rfl)) rfl) fun k hk=>?_
 by_cases hlt:k < b.length
 rotate_left
 ·obtain rfl:k=b.length:=by omega
  have hBn:savB b b.length≠[]:=by
   obtain ⟨n,hn⟩:∃ n,b.length=n+1:=⟨b.length - 1,by omega⟩
   rw [hn]
   unfold savB
   rw [savN_at (by omega)]
   unfold enT
   simp
  repeat (first|refine W.gob rfl ?_|refine WL.nil ?_|refine WL.bf rfl rfl rfl (by omega) ?_|refine W.condF rfl ?_)
  refine (?_:WL _ _ _ _ _ _)
  dsimp only [St.put,Nat.reduceAdd]
  refine WL.bs rfl rfl rfl (callF Tryz.func59 rfl rfl) bldS_ok hBn ?_
  repeat (first|refine WL.nil ?_|refine WL.e1 rfl ?_)
  refine (?_:W _ _ _ _ _)
  dsimp only [St.put,Nat.reduceAdd]
  exact W.ret (fin2 rfl rfl rfl rfl rfl rfl rfl)
 have h1:=hlen k hk
 have h2:=evN_le b k
 have h3:=hBt k hlt
 obtain ⟨hs,hp,hl⟩:=enE_zero (hEn k hlt)
 obtain ⟨hwX,hwl⟩:=wrT_len hs (hBp k hlt) hp hl
 have hW:=pWrite_G b[k].s b[k].p (hBp k hlt)
 rw [hwX] at hW
 have hst:savB b k++enT b[k]=savB b (k+1):=by rw [← savN_at hlt];rfl
 have hn3:=(hBp k hlt).n3
 obtain ⟨SB,hSB⟩:∃ z,savB b k=z:=⟨_,rfl⟩
 rw [hSB] at h1 hst ⊢
 have hevk:b[k].p.evs.length≤200:=by
  have:=evN_take hlt
  have:=evN_le b (k+1)
  omega
 repeat (first|refine W.gob rfl ?_|refine WL.nil ?_|refine WL.bt rfl rfl rfl (by omega) ?_|refine WL.e1 rfl ?_|refine WL.idx rfl rfl (by omega) (by first|exact map_at (by omega)|exact map_atZ (by omega) (by omega)) ?_|refine W.condT rfl ?_)
 refine (?_:WL _ _ _ _ _ _)
 dsimp only [St.put,Nat.reduceAdd]
 obtain ⟨e,he⟩:∃ e,b[k]=e:=⟨_,rfl⟩
 simp only [he] at hW hwl hst h3 hn3 hevk ⊢
 unfold enT at hst
 obtain ⟨wt,hwt⟩:∃ z,wrT e.s e.p=z:=⟨_,rfl⟩
 rw [hwt] at hW hwl hst
 refine WL.vl rfl (WV.callG hB rfl (callF Tryz.func57 rfl rfl) rfl rfl hW) ?_
 have c1:([116,105,116,108,101,32]++e.t).length≤1006:=by rw [List.length_append];simp only [List.length_cons,List.length_nil];omega
 have c2:([116,105,116,108,101,32]++e.t++[10]).length≤1007:=by rw [List.length_append];simp only [List.length_cons,List.length_nil];omega
 have c3:([116,105,116,108,101,32]++e.t++[10]++wt).length≤200010000:=by rw [List.length_append];omega
 have c4:([116,105,116,108,101,32]++e.t++[10]++wt++[101,110,100,10]).length≤200010004:=by rw [List.length_append];simp only [List.length_cons,List.length_nil];omega
 repeat (first|refine W.gob rfl ?_|refine WL.nil ?_|refine WL.nf rfl rfl rfl (by omega) ?_|refine WL.e1 rfl ?_|refine WL.cat rfl rfl (by first|omega|(simp;done)|(simp;omega)) ?_|refine W.condF rfl ?_)
 refine (?_:WL _ _ _ _ _ _)
 dsimp only [St.put,Nat.reduceAdd]
 refine WL.bw rfl rfl rfl (callF Tryz.func58 rfl rfl) bldW_ok (by omega) hst ?_
 repeat (first|refine W.gob rfl ?_|refine WL.nil ?_|refine WL.e1 rfl ?_|refine WL.ar rfl rfl (by unfold I64;omega) ?_)
 dsimp only [St.put,Nat.reduceAdd]
 exact ⟨k+1,by omega,by omega,(Tr.ren (fun q=>q) (by repeat (first|exact trivial|refine ⟨⟨?_,?_⟩,?_⟩|rfl)) (by repeat (first|exact trivial|refine ⟨⟨?_,?_,?_⟩,?_⟩|rfl|exact congrArg (fun q=>some (AO.row _ _ q)) (by first|rfl|(simp;done)|(simp [eInt];done)|(simp [eLk];done)))) rfl)⟩
theorem pSave_G (b:List En) (hB:BkOk b) (hev:evN b≤200):Ctg tabB Tryz.prog 22 [eBk b] (.tu [.sc (.string (bs (savT b))),.sc (.int .i64 (bkE b))]):=by
 by_cases h:b.length=0
 ·exact pSave_G0 b hB h
 ·exact pSave_G1 b hB hev (by omega)
theorem rSave_FS (b:List En) (hB:BkOk b) (hev:evN b≤200):Ctr Tryz.prog 24 [eBk b] (.tu [.sc (.string (bs (savT b))),.sc (.int .i64 (bkE b))]):=by
 have hn:=hB.n
 have hC:=rBkCheck_FS b hB
 by_cases h0:bkE b=0
 rotate_left
 ·have eT:savT b=[]:=if_neg h0
  rw [eT]
  obtain ⟨E,hE⟩:∃ E,bkE b=E:=⟨_,rfl⟩
  rw [hE] at h0 hC ⊢
  refine Ctr.intro Tryz.func24 rfl Tryz.ntmps24 (Nat.le_of_ble_eq_true rfl) (bd_all rfl) fun w0 F0=>?_;dsimp only [St.init,number,Nat.reduceAdd]
  repeat refine W.go rfl ?_
  refine (?_:WL _ _ _ _ _ _)
  dsimp only [St.put,Nat.reduceAdd]
  refine WL.vl rfl (WV.call rfl (callF Tryz.func60 rfl rfl) rfl rfl hC) ?_
  repeat (first|refine W.gob rfl ?_|refine WL.nil ?_|refine WL.nt rfl rfl rfl (by omega) ?_|refine WL.e1 rfl ?_|refine W.condT rfl ?_)
  refine (?_:W _ _ _ _ _)
  dsimp only [St.put,Nat.reduceAdd]
  exact W.ret (fin2 rfl rfl rfl rfl rfl rfl rfl)
 have eT:savT b=savB b b.length:=if_pos h0
 have hEn:=(bkE_zero h0).2
 have hlen:=savB_len hB h0
 rw [eT,h0]
 rw [h0] at hC
 refine Ctr.intro Tryz.func24 rfl Tryz.ntmps24 (Nat.le_of_ble_eq_true rfl) (bd_all rfl) fun w0 F0=>?_;dsimp only [St.init,number,Nat.reduceAdd]
 repeat refine W.go rfl ?_
 refine (?_:WL _ _ _ _ _ _)
 dsimp only [St.put,Nat.reduceAdd]
 refine WL.vl rfl (WV.call rfl (callF Tryz.func60 rfl rfl) rfl rfl hC) ?_
 repeat (first|refine W.gob rfl ?_|refine WL.nil ?_|refine WL.nf rfl rfl rfl (by omega) ?_|refine WL.e1 rfl ?_|refine W.condF rfl ?_)
 refine (?_:W _ _ _ _ _)
 dsimp only [St.put,Nat.reduceAdd]
 refine W.loop (fun k:Nat=>k≤b.length) (fun k=>⟨[(1,.pt 0 0 0),(5,.sc (.string (bs (savB b k)))),(6,.sc (.int .i64 k))],[(0,.box 48 [.ls 5 (b.map eEn)])],1⟩) (fun k=>b.length - k) 0 (by omega) (Tr.ren id (by repeat (first|exact trivial|refine ⟨⟨?_,?_⟩,?_⟩|rfl)) (by repeat (first|exact trivial|refine ⟨⟨?_,?_,?_⟩,?_⟩|rfl)) rfl) fun k hk=>?_
 by_cases hlt:k < b.length
 rotate_left
 ·obtain rfl:k=b.length:=by omega
  repeat (first|refine W.gob rfl ?_|refine WL.nil ?_|refine WL.bf rfl rfl rfl (by omega) ?_|refine WL.e1 rfl ?_|refine WL.len rfl rfl (by first|exact List.length_map _|exact List.length_replicate|rfl) ?_|refine W.condF rfl ?_)
  refine (?_:W _ _ _ _ _)
  dsimp only [St.put,Nat.reduceAdd]
  exact W.ret (fin2 rfl rfl rfl rfl rfl rfl rfl)
 have h1:=hlen k hk
 have h2:=evN_le b k
 have h3:=hB.t k hlt
 obtain ⟨hs,hp,hl⟩:=enE_zero (hEn k hlt)
 obtain ⟨hwX,hwl⟩:=wrT_len hs (hB.p k hlt) hp hl
 have hW:=rWrite_FS b[k].s b[k].p (hB.p k hlt)
 rw [hwX] at hW
 have hst:savB b k++enT b[k]=savB b (k+1):=by rw [← savN_at hlt];rfl
 have hevk:b[k].p.evs.length≤200:=by
  have:=evN_take hlt
  have:=evN_le b (k+1)
  omega
 obtain ⟨SB,hSB⟩:∃ z,savB b k=z:=⟨_,rfl⟩
 rw [hSB] at h1 hst ⊢
 unfold enT at hst
 obtain ⟨wt,hwt⟩:∃ z,wrT b[k].s b[k].p=z:=⟨_,rfl⟩
 rw [hwt] at hW hwl hst
 repeat (first|refine W.gob rfl ?_|refine WL.nil ?_|refine WL.bt rfl rfl rfl (by omega) ?_|refine WL.e1 rfl ?_|refine WL.len rfl rfl (by first|exact List.length_map _|exact List.length_replicate|rfl) ?_|refine W.condT rfl ?_)
 refine (?_:W _ _ _ _ _)
 dsimp only [St.put,Nat.reduceAdd]
 refine W.drawK (by kernel_rfl) (by kernel_rfl) ?_
 repeat (first|refine DK.st rfl ?_|refine DK.idx rfl rfl (by omega) (by first|exact map_at (by omega)|exact map_atZ (by omega) (by omega)) ?_)
 refine DK.vl rfl (WV.call rfl (callF Tryz.func61 rfl rfl) rfl rfl hW) ?_
 repeat (first|refine DK.st rfl ?_|refine DK.nil ?_)
 obtain ⟨e,he⟩:∃ e,b[k]=e:=⟨_,rfl⟩
 simp only [he] at hwl hst h3 hevk
 have c1:(SB++[116,105,116,108,101,32]).length≤300000000:=by rw [List.length_append];simp only [List.length_cons,List.length_nil];omega
 have c2:(SB++[116,105,116,108,101,32]++e.t).length≤300002000:=by rw [List.length_append];omega
 have c3:(SB++[116,105,116,108,101,32]++e.t++[10]).length≤300002001:=by rw [List.length_append];simp only [List.length_cons,List.length_nil];omega
 have c4:(SB++[116,105,116,108,101,32]++e.t++[10]++wt).length≤600002001:=by rw [List.length_append];omega
 have hrow:SB++[116,105,116,108,101,32]++e.t++[10]++wt++[101,110,100,10]=savB b (k+1):=by rw [← hst];simp only [List.append_assoc]
 repeat (first|refine W.gob rfl ?_|refine WL.e1 rfl ?_|refine WL.idx rfl rfl (by omega) (by first|exact map_at (by omega)|exact map_atZ (by omega) (by omega)) ?_|refine WL.cat rfl rfl (by first|omega|(simp;done)|(simp;omega)) ?_)
 refine (?_:WL _ _ _ _ _ _)
 dsimp only [St.put,Nat.reduceAdd]
 simp only [he]
 repeat (first|refine W.gob rfl ?_|refine WL.nil ?_|refine WL.e1 rfl ?_|refine WL.ar rfl rfl (by unfold I64;omega) ?_|refine WL.cat rfl rfl (by first|omega|(simp;done)|(simp;omega)) ?_)
 dsimp only [St.put,Nat.reduceAdd]
 refine ⟨k+1,by omega,by omega,?_⟩
 rw [← hrow]
 exact (Tr.ren id (by repeat (first|exact trivial|refine ⟨⟨?_,?_⟩,?_⟩|rfl)) (by repeat (first|exact trivial|refine ⟨⟨?_,?_,?_⟩,?_⟩|rfl)) rfl)
theorem saves_G (b:List En):Ctg tabB Tryz.prog 4 [eBk b] (.sc (.bool true)):=by
 have hbg:=bigBk_FS b
 cases hb:bigT b with
 | true =>
  rw [hb] at hbg
  refine Ctg.intro stabB Tryz.func4 rfl Tryz.ntmps4 (Nat.le_of_ble_eq_true rfl) (bd_all rfl) fun w0 F0 hB=>?_;dsimp only [St.init,number,Nat.reduceAdd]
  repeat (first|refine W.gob rfl ?_|refine WL.nil ?_|refine WL.e1 rfl ?_)
  refine (?_:WL _ _ _ _ _ _)
  dsimp only [St.put,Nat.reduceAdd]
  refine WL.vl rfl (WV.call rfl (callF Tryz.func21 rfl rfl) rfl rfl hbg) ?_
  repeat (first|refine W.go rfl ?_|refine WL.nil ?_|refine W.condT rfl ?_)
  refine (?_:WL _ _ _ _ _ _)
  dsimp only [St.put,Nat.reduceAdd]
  refine WL.vl rfl (WV.callG hB rfl (callF Tryz.func15 rfl rfl) rfl rfl works11_G) ?_
  repeat refine WL.ev rfl ?_
  refine (?_:W _ _ _ _ _)
  dsimp only [St.put,Nat.reduceAdd]
  exact W.ret (fin1 rfl rfl rfl rfl)
 | false =>
  rw [hb] at hbg
  have hO:=bkOk_of hb
  have hev:=evN_of hb
  refine Ctg.intro stabB Tryz.func4 rfl Tryz.ntmps4 (Nat.le_of_ble_eq_true rfl) (bd_all rfl) fun w0 F0 hB=>?_;dsimp only [St.init,number,Nat.reduceAdd]
  repeat (first|refine W.gob rfl ?_|refine WL.nil ?_|refine WL.e1 rfl ?_)
  refine (?_:WL _ _ _ _ _ _)
  dsimp only [St.put,Nat.reduceAdd]
  refine WL.vl rfl (WV.call rfl (callF Tryz.func21 rfl rfl) rfl rfl hbg) ?_
  repeat (first|refine W.go rfl ?_|refine WL.nil ?_|refine W.condF rfl ?_)
  refine (?_:WL _ _ _ _ _ _)
  dsimp only [St.put,Nat.reduceAdd]
  refine WL.vl rfl (WV.call rfl (callF Tryz.func23 rfl rfl) rfl rfl (rBkCopy_FS b hO)) ?_
  refine (?_:WL _ _ _ _ _ _)
  dsimp only [St.put,Nat.reduceAdd]
  refine WL.vl rfl (WV.callG hB rfl (callF Tryz.func22 rfl rfl) rfl rfl (pSave_G b hO hev)) ?_
  repeat (first|refine W.go rfl ?_|refine WL.ev rfl ?_)
  refine (?_:WL _ _ _ _ _ _)
  dsimp only [St.put,Nat.reduceAdd]
  refine WL.vl rfl (WV.call rfl (callF Tryz.func24 rfl rfl) rfl rfl (rSave_FS b hO hev)) ?_
  repeat (first|refine W.go rfl ?_|refine WL.ev rfl ?_)
  refine (?_:WL _ _ _ _ _ _)
  dsimp only [St.put,Nat.reduceAdd]
  refine WL.partG rfl rfl rfl rfl (fun hp=>?_) (fun hp=>absurd hp (by simp))
  repeat (first|refine WL.ev rfl ?_|refine WL.gyes rfl rfl rfl rfl ?_)
  refine (?_:WL _ _ _ _ _ _)
  dsimp only [St.put,Nat.reduceAdd]
  refine WL.partG rfl rfl rfl rfl (fun hp=>?_) (fun hp=>absurd hp (by simp))
  refine WL.gyes rfl rfl rfl rfl ?_
  refine WL.vl rfl (WV.callG hB rfl (callF Tryz.func15 rfl rfl) rfl rfl works11_G) ?_
  repeat refine WL.ev rfl ?_
  refine (?_:W _ _ _ _ _)
  dsimp only [St.put,Nat.reduceAdd]
  exact W.ret (fin1 rfl rfl rfl rfl)
end Go.Proofs.YtgelfflighgajaaGreatDoor
