/- Books: Check and Find of the program. -/
import Derived.Test.YtgelfflighgajaaGreatDoorEd0Pq
import Derived.Test.YtgelfflighgajaaGreatDoorEdiPq
set_option maxHeartbeats 8000000
set_option maxRecDepth 100000
set_option linter.unusedVariables false
set_option linter.unusedSimpArgs false
namespace Go.Proofs.YtgelfflighgajaaGreatDoor
open Go.RowKit
theorem z1o {p:Prop} (h:p:=by omega):p:=h
theorem titled1_FS (e:En) (t:List UInt8):Ctr Tryz.prog 180 [.ag (eEn e),.pr [.sc (.string (bs t))]] (.sc (.bool (e.t == t))):=by
 refine Ctr.intro Tryz.func180 rfl Tryz.ntmps180 (Nat.le_of_ble_eq_true rfl) (bd_all rfl) fun w0 F0=>?_;dsimp only [St.init,number,Nat.reduceAdd]
 repeat refine W.go rfl ?_
 refine (?_:W _ _ _ _ _)
 exact W.ret (fin1 rfl rfl rfl rfl)
theorem idxE_FS (b:List En) (t:List UInt8) (hb:b.length≤100000):Ctr Tryz.prog 179 [.ls 5 (b.map eEn),.fn 180 [.pr [.sc (.string (bs t))]]] (.sc (.int .i64 (ttlI b t))):=by
 refine Ctr.intro Tryz.func179 rfl Tryz.ntmps179 (Nat.le_of_ble_eq_true rfl) (bd_all rfl) fun w0 F0=>?_;dsimp only [St.init,number,Nat.reduceAdd]
 repeat (first|refine W.go rfl ?_|refine WL.ev rfl ?_|refine WL.len rfl rfl zql ?_)
 refine (?_:W _ _ _ _ _)
 refine W.loop (fun k:Nat=>k≤b.length∧∀ i (hi:i < k) (h:i < b.length),b[i].t≠t) (fun k=>⟨[(0,.ls 5 (b.map eEn)),(1,.fn 180 [.pr [.sc (.string (bs t))]]),(7,.sc (.int .i64 b.length)),(8,.sc (.int .i64 k))],[],0⟩) (fun k=>b.length - k) 0 ⟨by omega,fun i hi=>by omega⟩ (zqt id) fun k hk=>?_
 obtain ⟨hk,hno⟩:=hk
 by_cases hlt:k < b.length
 ·repeat (first|refine W.gob rfl ?_|refine WL.nil ?_|refine WL.bt rfl rfl rfl z1o ?_|refine WL.e1 rfl ?_|refine WL.idx rfl rfl z1o zqm ?_|refine W.condT rfl ?_)
  refine (?_:WL _ _ _ _ _ _)
  refine WL.vl rfl (WV.callV (truH _) rfl (callF Tryz.func180 rfl rfl) rfl rfl rfl rfl rfl (titled1_FS b[k] t).g) ?_
  by_cases he:b[k].t=t
  ·have e:(b[k].t == t)=true:=by rw [he];simp
   have hn:=ttlN_eq hlt (fun i hi=>hno i hi z1o) he
   have hI:ttlI b t=k:=by unfold ttlI;rw [hn,if_pos hlt]
   rw [e,hI]
   repeat (first|refine W.gob rfl ?_|refine WL.nil ?_|refine WL.e1 rfl ?_|refine W.condT rfl ?_)
   refine (?_:W _ _ _ _ _)
   exact W.ret (fin1 rfl rfl rfl rfl)
  ·have e:(b[k].t == t)=false:=by simpa using he
   rw [e]
   repeat (first|refine W.gob rfl ?_|refine WL.nil ?_|refine WL.e1 rfl ?_|refine WL.ar rfl rfl (by unfold I64;omega) ?_|refine W.condF rfl ?_)
   exact ⟨k+1,⟨by omega,fun i hi h=>by
    by_cases e:i=k
    ·subst e;exact he
    ·exact hno i z1o h⟩,by omega,(zqt id)⟩
 ·have hI:ttlI b t=-1:=by
   refine if_neg fun h=>?_
   have:=ttlN_here h
   exact hno _ (by omega) h (by simpa using this)
  rw [hI]
  repeat (first|refine W.gob rfl ?_|refine WL.nil ?_|refine WL.bf rfl rfl rfl z1o ?_|refine WL.e1 rfl ?_|refine W.condF rfl ?_)
  refine (?_:W _ _ _ _ _)
  exact W.ret (fin1 rfl rfl rfl rfl)
theorem titled_FS (b:List En) (t:List UInt8) (hb:b.length≤100000):Ctr Tryz.prog 121 [.ls 5 (b.map eEn),.sc (.string (bs t))] (.sc (.int .i64 (ttlI b t))):=by
 refine Ctr.intro Tryz.func121 rfl Tryz.ntmps121 (Nat.le_of_ble_eq_true rfl) (bd_all rfl) fun w0 F0=>?_;dsimp only [St.init,number,Nat.reduceAdd]
 repeat refine W.go rfl ?_
 refine (?_:WL _ _ _ _ _ _)
 refine WL.vl rfl (WV.mkf rfl rfl) ?_
 refine (?_:WL _ _ _ _ _ _)
 refine WL.vl rfl (WV.lendV (truH _) rfl (callF Tryz.func179 rfl rfl) rfl rfl rfl rfl rfl rfl truST (idxE_FS b t hb).g) ?_
 repeat refine WL.ev rfl ?_
 refine (?_:W _ _ _ _ _)
 exact W.ret (fin1 rfl rfl rfl rfl)
theorem pBkCheck_FS (b:List En) (hB:BkOk b):Ctr Tryz.prog 56 [eBk b] (.sc (.int .i64 (bkE b))):=by
 have hn:=hB.n
 by_cases h64:b.length > 64
 ·have e:bkE b=2:=if_pos h64
  rw [e]
  refine Ctr.intro Tryz.func56 rfl Tryz.ntmps56 (Nat.le_of_ble_eq_true rfl) (bd_all rfl) fun w0 F0=>?_;dsimp only [St.init,number,Nat.reduceAdd]
  repeat (first|refine W.gob rfl ?_|refine WL.nil ?_|refine WL.bt rfl rfl rfl z1o ?_|refine WL.e1 rfl ?_|refine WL.len rfl rfl zql ?_|refine W.condT rfl ?_)
  refine (?_:W _ _ _ _ _)
  exact W.ret (fin1 rfl rfl rfl rfl)
 refine Ctr.intro Tryz.func56 rfl Tryz.ntmps56 (Nat.le_of_ble_eq_true rfl) (bd_all rfl) fun w0 F0=>?_;dsimp only [St.init,number,Nat.reduceAdd]
 repeat (first|refine W.gob rfl ?_|refine WL.nil ?_|refine WL.bf rfl rfl rfl z1o ?_|refine WL.e1 rfl ?_|refine WL.len rfl rfl zql ?_|refine W.condF rfl ?_)
 refine (?_:W _ _ _ _ _)
 refine W.loop (fun k:Nat=>k≤b.length∧∀ i (hi:i < k) (h:i < b.length),enE b i b[i]=0) (fun k=>⟨[(1,.pt 0 0 0),(13,.ls 5 (b.map eEn)),(14,.sc (.int .i64 b.length)),(15,.sc (.int .i64 k))],[(0,.box 48 [.ls 5 (b.map eEn)])],1⟩) (fun k=>b.length - k) 0 ⟨by omega,fun i hi=>by omega⟩ (zqt id) fun k hk=>?_
 obtain ⟨hk,hgood⟩:=hk
 by_cases hlt:k < b.length
 rotate_left
 ·rw [bkE_ok (by omega) fun i hi=>hgood i (by omega) hi]
  repeat (first|refine W.gob rfl ?_|refine WL.nil ?_|refine WL.bf rfl rfl rfl z1o ?_|refine WL.e1 rfl ?_|refine W.condF rfl ?_)
  refine (?_:W _ _ _ _ _)
  exact W.ret (fin1 rfl rfl rfl rfl)
 have hO:=hB.p k hlt
 have ht:=hB.t k hlt
 have hErr:enE b k b[k]≠0→bkE b=enE b k b[k]:=fun h=>bkE_at z1o hlt (fun j hj=>hgood j hj z1o) h
 have hNext:enE b k b[k]=0→∀ i (hi:i < k+1) (h:i < b.length),enE b i b[i]=0:=fun h0 i hi h=>by
  by_cases e:i=k
  ·subst e;exact h0
  ·exact hgood i z1o h
 have hT:=pTitle_FS b[k].t z1o
 have hH:=titled_FS b b[k].t z1o
 have hlt2:ttlN b b[k].t < b.length:=by
  rcases Nat.lt_or_ge k (ttlN b b[k].t) with h|h
  ·have:=ttlN_before h hlt
   simp at this
  ·omega
 have hti:ttlI b b[k].t=(ttlN b b[k].t:Int):=if_pos hlt2
 rw [hti] at hH
 have hC:=pCheck_FS b[k].p hO
 have hCan:=pCan_FS b[k].s b[k].p hO
 unfold enE at hErr hNext
 repeat (first|refine W.gob rfl ?_|refine WL.nil ?_|refine WL.bt rfl rfl rfl z1o ?_|refine WL.e1 rfl ?_|refine WL.idx rfl rfl z1o zqm ?_|refine W.condT rfl ?_)
 refine (?_:WL _ _ _ _ _ _)
 obtain ⟨e,he⟩:∃ e,b[k]=e:=⟨_,rfl⟩
 simp only [he] at hT hH hC hCan hErr hNext hO ht hlt2 ⊢
 refine WL.vl rfl (WV.call rfl (callF Tryz.func120 rfl rfl) rfl rfl hT) ?_
 cases hto:ttlOk e.t with
 | false =>
  rw [hErr (by rw [if_pos (.inl hto)];decide),if_pos (.inl hto)]
  repeat (first|refine W.gob rfl ?_|refine WL.nil ?_|refine WL.e1 rfl ?_|refine WL.opno rfl rfl rfl rfl rfl rfl rfl ?_|refine W.condT rfl ?_)
  refine (?_:W _ _ _ _ _)
  exact W.ret (fin1 rfl rfl rfl rfl)
 | true =>
  repeat (first|refine WL.e1 rfl ?_|refine WL.gyes rfl rfl rfl rfl ?_)
  refine (?_:WL _ _ _ _ _ _)
  refine WL.vl rfl (WV.call rfl (callF Tryz.func121 rfl rfl) rfl rfl hH) ?_
  by_cases hd:ttlN b e.t < k
  ·rw [hErr (by rw [if_pos (.inr hd)];decide),if_pos (.inr hd)]
   repeat (first|refine W.gob rfl ?_|refine WL.nil ?_|refine WL.bt rfl rfl rfl z1o ?_|refine WL.e1 rfl ?_|refine WL.gyes rfl rfl rfl rfl ?_|refine W.condT rfl ?_)
   refine (?_:W _ _ _ _ _)
   exact W.ret (fin1 rfl rfl rfl rfl)
  have hA:¬ (ttlOk e.t=false∨ttlN b e.t < k):=by rintro (h|h);rw [hto] at h;cases h;exact hd h
  rw [if_neg hA] at hErr hNext
  repeat (first|refine W.gob rfl ?_|refine WL.nil ?_|refine WL.bf rfl rfl rfl z1o ?_|refine WL.e1 rfl ?_|refine WL.gyes rfl rfl rfl rfl ?_|refine W.condF rfl ?_)
  refine (?_:WL _ _ _ _ _ _)
  by_cases hs:1≤e.s∧e.s≤4
  rotate_left
  ·rw [hErr (by rw [if_pos hs];decide),if_pos hs]
   refine WL.vl rfl (WV.call rfl (callF Tryz.func69 rfl rfl) rfl rfl (pSysName_bad e.s hs)) ?_
   repeat (first|refine W.gob rfl ?_|refine WL.nil ?_|refine WL.nt rfl rfl rfl z1o ?_|refine WL.e1 rfl ?_|refine W.condT rfl ?_)
   refine (?_:W _ _ _ _ _)
   exact W.ret (fin1 rfl rfl rfl rfl)
  rw [if_neg (fun h=>h hs)] at hErr hNext
  refine WL.vl rfl (WV.call rfl (callF Tryz.func69 rfl rfl) rfl rfl (pSysName_ok e.s hs)) ?_
  repeat (first|refine W.gob rfl ?_|refine WL.nil ?_|refine WL.nf rfl rfl rfl z1o ?_|refine WL.e1 rfl ?_|refine W.condF rfl ?_)
  refine (?_:WL _ _ _ _ _ _)
  refine WL.vl rfl (WV.call rfl (callF Tryz.func52 rfl rfl) rfl rfl hC) ?_
  by_cases h0:pceE e.p=0
  rotate_left
  ·rw [if_pos h0] at hErr
   rw [hErr h0]
   obtain ⟨E,hE⟩:∃ E,pceE e.p=E:=⟨_,rfl⟩
   rw [hE] at h0 ⊢
   repeat (first|refine W.gob rfl ?_|refine WL.nil ?_|refine WL.nt rfl rfl rfl z1o ?_|refine WL.e1 rfl ?_|refine W.condT rfl ?_)
   refine (?_:W _ _ _ _ _)
   exact W.ret (fin1 rfl rfl rfl rfl)
  rw [if_neg (fun h=>h h0)] at hErr hNext
  have hlE:=(lks_ok hs h0).2
  rw [h0]
  rw [hlE] at hCan
  repeat (first|refine W.gob rfl ?_|refine WL.nil ?_|refine WL.nf rfl rfl rfl z1o ?_|refine WL.e1 rfl ?_|refine W.condF rfl ?_)
  refine (?_:WL _ _ _ _ _ _)
  by_cases hl:lksR e.s e.p=[]
  ·have hb:((0:Int) == 0 && ((lksR e.s e.p).length:Int) == 0)=true:=by rw [hl];rfl
   rw [hb] at hCan
   rw [if_pos hl] at hNext
   refine WL.vl rfl (WV.call rfl (callF Tryz.func70 rfl rfl) rfl rfl hCan) ?_
   repeat (first|refine W.gob rfl ?_|refine WL.nil ?_|refine WL.e1 rfl ?_|refine WL.ar rfl rfl (by unfold I64;omega) ?_|refine W.condF rfl ?_)
   exact ⟨k+1,⟨by omega,hNext rfl⟩,by omega,(zqt id)⟩
  ·have hb:((0:Int) == 0 && ((lksR e.s e.p).length:Int) == 0)=false:=by
    have:(lksR e.s e.p).length≠0:=fun h=>hl (List.eq_nil_of_length_eq_zero h)
    simp;omega
   rw [hb] at hCan
   rw [if_neg hl] at hErr
   rw [hErr (by decide)]
   refine WL.vl rfl (WV.call rfl (callF Tryz.func70 rfl rfl) rfl rfl hCan) ?_
   repeat (first|refine W.gob rfl ?_|refine WL.nil ?_|refine WL.e1 rfl ?_|refine W.condT rfl ?_)
   refine (?_:W _ _ _ _ _)
   exact W.ret (fin1 rfl rfl rfl rfl)
end Go.Proofs.YtgelfflighgajaaGreatDoor
