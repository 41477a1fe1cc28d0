/- Reports of losses: the program's ParseReport. -/
import Derived.Test.YtockempedekkkaaGreatDoorYRJq
set_option maxHeartbeats 4000000
set_option maxRecDepth 100000
set_option linter.unusedVariables false
set_option linter.unusedSimpArgs false
namespace Go.Proofs.YtockempedekkkaaGreatDoor
open Go.RowKit
theorem z35i {z:Int} (h:I64 z:=by unfold I64;omega):I64 z:=h
theorem rq_idx_at {d:List UInt8}:∀ {l:List (List UInt8)} {k:Nat} (hk:k<l.length),(∀ j (hj:j<l.length),j<k→l[j]≠d)→l[k]=d→l.idxOf d=k
 | x::r,0,hk,_,h=>by
  have:x=d:=h
  rw [List.idxOf_cons,this];simp
 | x::r,k+1,hk,hj,h=>by
  have h0:x≠d:=hj 0 (by simp) (by omega)
  rw [List.idxOf_cons,show (x == d)=false by simpa using h0]
  have:=rq_idx_at (l:=r) (k:=k) (by simpa using hk) (fun j hj' hjk=>hj (j+1) (by simpa using hj') (by omega)) (by simpa using h)
  simp [this]
theorem rq_idx_none {d:List UInt8}:∀ {l:List (List UInt8)},(∀ j (hj:j<l.length),l[j]≠d)→l.idxOf d=l.length
 | [],_=>rfl
 | x::r,hj=>by
  have h0:x≠d:=hj 0 (by simp)
  rw [List.idxOf_cons,show (x == d)=false by simpa using h0]
  have:=rq_idx_none (l:=r) (fun j hj'=>hj (j+1) (by simpa using hj'))
  simp [this]
def rq_ixV(d:List UInt8):Int:=if rq_nmL.idxOf d<8 then((rq_nmL.idxOf d:Nat):Int)else -1
theorem indexS_FS (d:List UInt8):Ctr Tryz.prog 22 [.ls 1 (rq_nmL.map eTx),.sc (.string (bs d))] (.sc (.int .i64 (rq_ixV d))):=by
 obtain ⟨L,hL⟩:∃ L,rq_nmL=L:=⟨_,rfl⟩
 have h8:L.length=8:=by rw [← hL];rfl
 have hv:rq_ixV d=if L.idxOf d < 8 then ((L.idxOf d:Nat):Int) else -1:=by unfold rq_ixV;rw [hL]
 rw [hv,hL]
 refine zqe Tryz.func22 Tryz.ntmps22 fun w0 F0=>?_;dsimp only [St.init,number,Nat.reduceAdd]
 repeat (first|refine W.gob rfl ?_|refine WL.nil ?_|refine WL.bt rfl rfl rfl zqo ?_|refine WL.bf rfl rfl rfl zqo ?_|refine WL.e1 rfl ?_|refine WL.ar rfl rfl z35i ?_|refine WL.len rfl rfl zql ?_|refine WL.idx rfl rfl zqo zqm ?_|refine W.condT rfl ?_|refine W.condF rfl ?_)
 (first|refine (?_:W _ _ _ _ _)|refine (?_:WL _ _ _ _ _ _)|skip)
 try dsimp only [St.put,Nat.reduceAdd]
 refine W.loop (fun k:Nat=>k≤L.length∧∀ j (hj:j < L.length),j < k→L[j]≠d) (fun k=>⟨[(0,.ls 1 (L.map eTx)),(1,.sc (.string (bs d))),(7,.sc (.int .i64 L.length)),(8,.sc (.int .i64 k))],[],0⟩) (fun k=>L.length - k) 0 ⟨by omega,fun j hj h=>absurd h zqo⟩ (zqt id) fun k hk=>?_
 obtain ⟨hk,hall⟩:=hk
 by_cases hlt:k < L.length
 rotate_left
 ·obtain rfl:k=L.length:=by omega
  have hi:=rq_idx_none (l:=L) (d:=d) fun j hj=>hall j hj hj
  rw [if_neg (by omega)]
  repeat (first|refine W.gob rfl ?_|refine WL.nil ?_|refine WL.bt rfl rfl rfl zqo ?_|refine WL.bf rfl rfl rfl zqo ?_|refine WL.e1 rfl ?_|refine WL.ar rfl rfl z35i ?_|refine WL.len rfl rfl zql ?_|refine WL.idx rfl rfl zqo zqm ?_|refine W.condT rfl ?_|refine W.condF rfl ?_)
  (first|refine (?_:W _ _ _ _ _)|refine (?_:WL _ _ _ _ _ _)|skip)
  try dsimp only [St.put,Nat.reduceAdd]
  exact W.ret zqr
 by_cases e:L[k]=d
 ·have hi:=rq_idx_at hlt hall e
  rw [if_pos (by omega),hi]
  have hb:(d == L[k])=true:=by simp [e]
  repeat (first|refine W.gob rfl ?_|refine WL.nil ?_|refine WL.bt rfl rfl rfl zqo ?_|refine WL.bf rfl rfl rfl zqo ?_|refine WL.e1 rfl ?_|refine WL.ar rfl rfl z35i ?_|refine WL.len rfl rfl zql ?_|refine WL.idx rfl rfl zqo zqm ?_|refine W.condT rfl ?_|refine W.condF rfl ?_)
  (first|refine (?_:W _ _ _ _ _)|refine (?_:WL _ _ _ _ _ _)|skip)
  try dsimp only [St.put,Nat.reduceAdd]
  rw [hb]
  repeat (first|refine W.gob rfl ?_|refine WL.nil ?_|refine WL.bt rfl rfl rfl zqo ?_|refine WL.bf rfl rfl rfl zqo ?_|refine WL.e1 rfl ?_|refine WL.ar rfl rfl z35i ?_|refine WL.len rfl rfl zql ?_|refine WL.idx rfl rfl zqo zqm ?_|refine W.condT rfl ?_|refine W.condF rfl ?_)
  (first|refine (?_:W _ _ _ _ _)|refine (?_:WL _ _ _ _ _ _)|skip)
  try dsimp only [St.put,Nat.reduceAdd]
  exact W.ret zqr
 ·have hb:(d == L[k])=false:=by simpa using fun h=>e h.symm
  repeat (first|refine W.gob rfl ?_|refine WL.nil ?_|refine WL.bt rfl rfl rfl zqo ?_|refine WL.bf rfl rfl rfl zqo ?_|refine WL.e1 rfl ?_|refine WL.ar rfl rfl z35i ?_|refine WL.len rfl rfl zql ?_|refine WL.idx rfl rfl zqo zqm ?_|refine W.condT rfl ?_|refine W.condF rfl ?_)
  (first|refine (?_:W _ _ _ _ _)|refine (?_:WL _ _ _ _ _ _)|skip)
  try dsimp only [St.put,Nat.reduceAdd]
  rw [hb]
  repeat (first|refine W.gob rfl ?_|refine WL.nil ?_|refine WL.bt rfl rfl rfl zqo ?_|refine WL.bf rfl rfl rfl zqo ?_|refine WL.e1 rfl ?_|refine WL.ar rfl rfl z35i ?_|refine WL.len rfl rfl zql ?_|refine WL.idx rfl rfl zqo zqm ?_|refine W.condT rfl ?_|refine W.condF rfl ?_)
  (first|refine (?_:W _ _ _ _ _)|refine (?_:WL _ _ _ _ _ _)|skip)
  try dsimp only [St.put,Nat.reduceAdd]
  refine ⟨k+1,⟨by omega,fun j hj h=>?_⟩,by omega,?_⟩
  ·by_cases e2:j=k
   ·subst e2;exact e
   ·exact hall j hj zqo
  exact (zqu (fun q=>q) (by repeat (first|exact trivial|refine ⟨⟨?_,?_,?_⟩,?_⟩|rfl|exact congrArg (fun q=>some (AO.row _ _ q)) (by first|rfl|(simp;done)|(simp [eInt];done)|(simp [eLk];done)))) rfl)
theorem rq_rest (ls:List (List UInt8))(tl:List UInt8) {k:Nat} (hk:k<ls.length):rq_joinC 10 (ls.drop k) tl=ls[k]++10::rq_joinC 10 (ls.drop (k+1)) tl:=by
 rw [List.drop_eq_getElem_cons hk,rq_joinC_cons]
theorem rq_join_len (tl:List UInt8):∀ (ls:List (List UInt8)),(ls.flatMap fun l=>l++[(10:UInt8)]).length+tl.length=(rq_joinC 10 ls tl).length
 | ls=>by unfold rq_joinC;rw [List.length_append]
theorem rq_drop_len (tl:List UInt8):∀ (ls:List (List UInt8))(k:Nat),(rq_joinC 10 (ls.drop k) tl).length≤(rq_joinC 10 ls tl).length
 | ls,0=>by simp
 | [],k+1=>by simp
 | l::ls,k+1=>by
  have:=rq_drop_len tl ls k
  rw [List.drop_succ_cons,rq_joinC_cons]
  simp only [List.length_append,List.length_cons];omega
theorem rq_num_le (tl:List UInt8):∀ (ls:List (List UInt8)),ls.length≤(rq_joinC 10 ls tl).length
 | []=>by simp
 | l::ls=>by
  have:=rq_num_le tl ls
  rw [rq_joinC_cons]
  simp only [List.length_append,List.length_cons];omega
def rq_prL (ls:List (List UInt8))(tl:List UInt8):List Lck:=(rq_prV ls tl).getD []
def rq_prE (ls:List (List UInt8))(tl:List UInt8):Int:=if (rq_prV ls tl).isSome then 0 else 4
theorem rq_no {ls:List (List UInt8)} {tl:List UInt8} (h:rq_prV ls tl=none):rq_prL ls tl=[]∧rq_prE ls tl=4:=by
 unfold rq_prL rq_prE;rw [h];exact⟨rfl,rfl⟩
theorem rq_yes {ls:List (List UInt8)} {tl:List UInt8} {xs:List Lck} (h:rq_prV ls tl=some xs):rq_prL ls tl=xs∧rq_prE ls tl=0:=by
 unfold rq_prL rq_prE;rw [h];exact⟨rfl,rfl⟩
theorem rq_no_tl {ls:List (List UInt8)} {tl:List UInt8} (h:tl≠[]):rq_prV ls tl=none:=by
 cases hx:rq_prV ls tl with
 | none=>rfl
 | some xs=>exact absurd (rq_prV_some hx).1 h
theorem rq_no_line {ls:List (List UInt8)} {tl:List UInt8} {k:Nat} (hk:k<ls.length)(h:rq_pLn (rq_wds 32 ls[k])=none):rq_prV ls tl=none:=by
 cases hx:rq_prV ls tl with
 | none=>rfl
 | some xs =>
  have:=(rq_prV_some hx).2.2.1 _ (List.getElem_mem hk)
  rw [h]at this;cases this
theorem rq_no_end {ls:List (List UInt8)} {tl:List UInt8} (h:¬ ((∀ x∈ls.map rq_plX,rq_rkOk x=true)∧rq_rpT (ls.map rq_plX)=rq_joinC 10 ls [])):rq_prV ls tl=none:=by
 cases hx:rq_prV ls tl with
 | none=>rfl
 | some xs=>exact absurd ⟨(rq_prV_some hx).2.2.2.1,(rq_prV_some hx).2.2.2.2⟩ h
theorem rq_pLn_len {ws:List (List UInt8)} (h:ws.length≠3):rq_pLn ws=none:=by
 match ws,h with
 | [],_=>rfl
 | [_],_=>rfl
 | [_,_],_=>rfl
 | [_,_,_],h=>exact absurd rfl h
 | _::_::_::_::_,_=>rfl
theorem rq_three {ws:List (List UInt8)} (h:ws.length=3):∃ a b d,ws=[a,b,d]:=by
 match ws,h with
 | [a,b,d],_=>exact⟨a,b,d,rfl⟩
theorem atS_val {t:List UInt8} {res:AV} (h:atS t res):∃ n e,res=.tu [.sc (.int .i64 n),.sc e]∧((e=.nilIface∧Lib.atoiAll t=.ok n)∨((∃ T p,e=.iface T p)∧∀ v,Lib.atoiAll t≠.ok v)):=by
 rcases h with⟨v,h1,rfl⟩|⟨h1,n,T,p,rfl⟩
 ·exact ⟨v,_,rfl,.inl ⟨rfl,h1⟩⟩
 ·exact ⟨n,_,rfl,.inr ⟨⟨T,p,rfl⟩,h1⟩⟩
theorem rq_pLn_a {a b d:List UInt8} (h:∀ v,Lib.atoiAll a≠.ok v):rq_pLn [a,b,d]=none:=by
 unfold rq_pLn
 dsimp only
 rcases hx:Lib.atoiAll a with v|_|_
 ·exact absurd hx (h v)
 ·rfl
 ·rfl
theorem rq_pLn_b {a b d:List UInt8} {e:Int} (ha:Lib.atoiAll a=.ok e)(h:∀ v,Lib.atoiAll b≠.ok v):rq_pLn [a,b,d]=none:=by
 unfold rq_pLn
 dsimp only
 rw [ha]
 rcases hx:Lib.atoiAll b with v|_|_
 ·exact absurd hx (h v)
 ·rfl
 ·rfl
theorem rq_pLn_d {a b d:List UInt8} {e c:Int} (ha:Lib.atoiAll a=.ok e)(hb:Lib.atoiAll b=.ok c):rq_pLn [a,b,d]=if rq_nmL.idxOf d<8 then some (e,c,((rq_nmL.idxOf d:Nat):Int)+1)else none:=by
 unfold rq_pLn
 dsimp only
 rw [ha,hb]
theorem pParse_G (ls:List (List UInt8)) (tl:List UInt8) (hn:∀ l∈ls,rq_NoB 10 l) (ht:rq_NoB 10 tl) (hT:(rq_joinC 10 ls tl).length≤100000) :
  Ctg tabR Tryz.prog 8 [.sc (.string (bs (rq_joinC 10 ls tl)))] (.tu [.ls 3 ((rq_prL ls tl).map eLk),.sc (.int .i64 (rq_prE ls tl))]):=by
 have hnum:=rq_num_le tl ls
 refine Ctg.intro stabR Tryz.func8 rfl Tryz.ntmps8 (Nat.le_of_ble_eq_true rfl) (bd_all rfl) fun w0 F0 hB=>?_;dsimp only [St.init,number,Nat.reduceAdd]
 repeat (first|refine W.go rfl ?_|refine WL.nil ?_|refine WL.gyes rfl rfl rfl rfl ?_|refine WL.opno rfl rfl rfl rfl rfl rfl rfl ?_|refine WL.len rfl rfl zql ?_|refine WL.idx rfl rfl zqo zqm ?_|refine WL.app rfl rfl rfl zqs ?_|refine W.condT rfl ?_|refine W.condF rfl ?_)
 (first|refine (?_:W _ _ _ _ _)|refine (?_:WL _ _ _ _ _ _)|skip)
 try dsimp only [St.put,Nat.reduceAdd]
 refine W.tr (Tr.nil (t:=4) 53 3 rfl rfl) ?_
 repeat (first|refine W.gob rfl ?_|refine WL.nil ?_|refine WL.bt rfl rfl rfl zqo ?_|refine WL.bf rfl rfl rfl zqo ?_|refine WL.nt rfl rfl rfl zqo ?_|refine WL.nf rfl rfl rfl zqo ?_|refine WL.e1 rfl ?_|refine WL.gyes rfl rfl rfl rfl ?_|refine WL.opno rfl rfl rfl rfl rfl rfl rfl ?_|refine WL.len rfl rfl zql ?_|refine WL.idx rfl rfl zqo zqm ?_|refine WL.app rfl rfl rfl zqs ?_|refine W.condT rfl ?_|refine W.condF rfl ?_)
 (first|refine (?_:W _ _ _ _ _)|refine (?_:WL _ _ _ _ _ _)|skip)
 try dsimp only [St.put,Nat.reduceAdd]
 refine W.loop (fun k:Nat=>k≤ls.length∧∀ j (hj:j < ls.length),j < k→(rq_pLn (rq_wds 32 ls[j])).isSome=true) (fun k=>⟨[(0,.sc (.string (bs (rq_joinC 10 ls tl)))),(4,.sl 0),(5,.sc (.string (bs (rq_joinC 10 (ls.drop k) tl))))],[(0,.row 53 3 (((ls.take k).map rq_plX).map eLk))],1⟩) (fun k=>ls.length+1 - k) 0 ⟨by omega,fun j hj h=>absurd h zqo⟩ (zqt id) fun k hk=>?_
 obtain ⟨hk,hall⟩:=hk
 by_cases hlt:k < ls.length
 rotate_left
 ·obtain rfl:k=ls.length:=by omega
  rw [List.drop_length,List.take_length,rq_joinC_nil]
  refine W.tr (Tr.freeze 0 rfl) ?_
  by_cases h0:tl=[]
  ·subst h0
   have hR:=pReport_G (ls.map rq_plX) (by rw [List.length_map];omega)
   by_cases hok:∀ x∈ls.map rq_plX,rq_rkOk x=true
   ·have hall2:(ls.map rq_plX).all rq_rkOk=true:=List.all_eq_true.2 hok
    have e1:rq_rpE (ls.map rq_plX)=0:=by unfold rq_rpE;rw [hall2];rfl
    have e2:rq_rpS (ls.map rq_plX)=rq_rpT (ls.map rq_plX):=by unfold rq_rpS;rw [hall2];rfl
    rw [e1,e2] at hR
    by_cases heq:rq_rpT (ls.map rq_plX)=rq_joinC 10 ls []
    ·have hy:=rq_yes (rq_prV_yes hn (fun l hl=>by
      obtain ⟨j,hj,rfl⟩:=List.mem_iff_getElem.1 hl
      exact hall j hj hj) hok heq)
     rw [hy.1,hy.2]
     have hb:(rq_rpT (ls.map rq_plX) == rq_joinC 10 ls [])=true:=by rw [heq];simp
     repeat (first|refine W.gob rfl ?_|refine WL.nil ?_|refine WL.bt rfl rfl rfl zqo ?_|refine WL.bf rfl rfl rfl zqo ?_|refine WL.nt rfl rfl rfl zqo ?_|refine WL.nf rfl rfl rfl zqo ?_|refine WL.e1 rfl ?_|refine WL.gyes rfl rfl rfl rfl ?_|refine WL.opno rfl rfl rfl rfl rfl rfl rfl ?_|refine WL.len rfl rfl zql ?_|refine WL.idx rfl rfl zqo zqm ?_|refine WL.app rfl rfl rfl zqs ?_|refine W.condT rfl ?_|refine W.condF rfl ?_)
     (first|refine (?_:W _ _ _ _ _)|refine (?_:WL _ _ _ _ _ _)|skip)
     try dsimp only [St.put,Nat.reduceAdd]
     refine WL.vl rfl (WV.callG hB rfl (callF Tryz.func6 rfl rfl) rfl rfl hR) ?_
     repeat (first|refine W.gob rfl ?_|refine WL.nil ?_|refine WL.bt rfl rfl rfl zqo ?_|refine WL.bf rfl rfl rfl zqo ?_|refine WL.nt rfl rfl rfl zqo ?_|refine WL.nf rfl rfl rfl zqo ?_|refine WL.e1 rfl ?_|refine WL.gyes rfl rfl rfl rfl ?_|refine WL.opno rfl rfl rfl rfl rfl rfl rfl ?_|refine WL.len rfl rfl zql ?_|refine WL.idx rfl rfl zqo zqm ?_|refine WL.app rfl rfl rfl zqs ?_|refine W.condT rfl ?_|refine W.condF rfl ?_)
     (first|refine (?_:W _ _ _ _ _)|refine (?_:WL _ _ _ _ _ _)|skip)
     try dsimp only [St.put,Nat.reduceAdd]
     rw [hb]
     repeat (first|refine W.gob rfl ?_|refine WL.nil ?_|refine WL.bt rfl rfl rfl zqo ?_|refine WL.bf rfl rfl rfl zqo ?_|refine WL.nt rfl rfl rfl zqo ?_|refine WL.nf rfl rfl rfl zqo ?_|refine WL.e1 rfl ?_|refine WL.gyes rfl rfl rfl rfl ?_|refine WL.opno rfl rfl rfl rfl rfl rfl rfl ?_|refine WL.len rfl rfl zql ?_|refine WL.idx rfl rfl zqo zqm ?_|refine WL.app rfl rfl rfl zqs ?_|refine W.condT rfl ?_|refine W.condF rfl ?_)
     (first|refine (?_:W _ _ _ _ _)|refine (?_:WL _ _ _ _ _ _)|skip)
     try dsimp only [St.put,Nat.reduceAdd]
     exact W.ret (fin2 rfl rfl rfl rfl rfl rfl rfl)
    ·have hy:=rq_no (tl:=[]) (rq_no_end (ls:=ls) fun h=>heq h.2)
     rw [hy.1,hy.2]
     have hb:(rq_rpT (ls.map rq_plX) == rq_joinC 10 ls [])=false:=by simpa using heq
     repeat (first|refine W.gob rfl ?_|refine WL.nil ?_|refine WL.bt rfl rfl rfl zqo ?_|refine WL.bf rfl rfl rfl zqo ?_|refine WL.nt rfl rfl rfl zqo ?_|refine WL.nf rfl rfl rfl zqo ?_|refine WL.e1 rfl ?_|refine WL.gyes rfl rfl rfl rfl ?_|refine WL.opno rfl rfl rfl rfl rfl rfl rfl ?_|refine WL.len rfl rfl zql ?_|refine WL.idx rfl rfl zqo zqm ?_|refine WL.app rfl rfl rfl zqs ?_|refine W.condT rfl ?_|refine W.condF rfl ?_)
     (first|refine (?_:W _ _ _ _ _)|refine (?_:WL _ _ _ _ _ _)|skip)
     try dsimp only [St.put,Nat.reduceAdd]
     refine WL.vl rfl (WV.callG hB rfl (callF Tryz.func6 rfl rfl) rfl rfl hR) ?_
     repeat (first|refine W.gob rfl ?_|refine WL.nil ?_|refine WL.bt rfl rfl rfl zqo ?_|refine WL.bf rfl rfl rfl zqo ?_|refine WL.nt rfl rfl rfl zqo ?_|refine WL.nf rfl rfl rfl zqo ?_|refine WL.e1 rfl ?_|refine WL.gyes rfl rfl rfl rfl ?_|refine WL.opno rfl rfl rfl rfl rfl rfl rfl ?_|refine WL.len rfl rfl zql ?_|refine WL.idx rfl rfl zqo zqm ?_|refine WL.app rfl rfl rfl zqs ?_|refine W.condT rfl ?_|refine W.condF rfl ?_)
     (first|refine (?_:W _ _ _ _ _)|refine (?_:WL _ _ _ _ _ _)|skip)
     try dsimp only [St.put,Nat.reduceAdd]
     rw [hb]
     repeat (first|refine W.gob rfl ?_|refine WL.nil ?_|refine WL.bt rfl rfl rfl zqo ?_|refine WL.bf rfl rfl rfl zqo ?_|refine WL.nt rfl rfl rfl zqo ?_|refine WL.nf rfl rfl rfl zqo ?_|refine WL.e1 rfl ?_|refine WL.gyes rfl rfl rfl rfl ?_|refine WL.opno rfl rfl rfl rfl rfl rfl rfl ?_|refine WL.len rfl rfl zql ?_|refine WL.idx rfl rfl zqo zqm ?_|refine WL.app rfl rfl rfl zqs ?_|refine W.condT rfl ?_|refine W.condF rfl ?_)
     (first|refine (?_:W _ _ _ _ _)|refine (?_:WL _ _ _ _ _ _)|skip)
     try dsimp only [St.put,Nat.reduceAdd]
     refine W.tr (Tr.nilLs (t:=2) 3 rfl) ?_
     exact W.ret (fin2 rfl rfl rfl rfl rfl rfl rfl)
   ·have hy:=rq_no (tl:=[]) (rq_no_end (ls:=ls) fun h=>hok h.1)
    rw [hy.1,hy.2]
    have hall2:(ls.map rq_plX).all rq_rkOk=false:=by
     cases h:(ls.map rq_plX).all rq_rkOk with
     | false=>rfl
     | true=>exact absurd (List.all_eq_true.1 h) hok
    have e1:rq_rpE (ls.map rq_plX)=1:=by unfold rq_rpE;rw [hall2];rfl
    rw [e1] at hR
    repeat (first|refine W.gob rfl ?_|refine WL.nil ?_|refine WL.bt rfl rfl rfl zqo ?_|refine WL.bf rfl rfl rfl zqo ?_|refine WL.nt rfl rfl rfl zqo ?_|refine WL.nf rfl rfl rfl zqo ?_|refine WL.e1 rfl ?_|refine WL.gyes rfl rfl rfl rfl ?_|refine WL.opno rfl rfl rfl rfl rfl rfl rfl ?_|refine WL.len rfl rfl zql ?_|refine WL.idx rfl rfl zqo zqm ?_|refine WL.app rfl rfl rfl zqs ?_|refine W.condT rfl ?_|refine W.condF rfl ?_)
    (first|refine (?_:W _ _ _ _ _)|refine (?_:WL _ _ _ _ _ _)|skip)
    try dsimp only [St.put,Nat.reduceAdd]
    refine WL.vl rfl (WV.callG hB rfl (callF Tryz.func6 rfl rfl) rfl rfl hR) ?_
    repeat (first|refine W.gob rfl ?_|refine WL.nil ?_|refine WL.bt rfl rfl rfl zqo ?_|refine WL.bf rfl rfl rfl zqo ?_|refine WL.nt rfl rfl rfl zqo ?_|refine WL.nf rfl rfl rfl zqo ?_|refine WL.e1 rfl ?_|refine WL.gyes rfl rfl rfl rfl ?_|refine WL.opno rfl rfl rfl rfl rfl rfl rfl ?_|refine WL.len rfl rfl zql ?_|refine WL.idx rfl rfl zqo zqm ?_|refine WL.app rfl rfl rfl zqs ?_|refine W.condT rfl ?_|refine W.condF rfl ?_)
    (first|refine (?_:W _ _ _ _ _)|refine (?_:WL _ _ _ _ _ _)|skip)
    try dsimp only [St.put,Nat.reduceAdd]
    refine W.tr (Tr.nilLs (t:=2) 3 rfl) ?_
    exact W.ret (fin2 rfl rfl rfl rfl rfl rfl rfl)
  ·have hy:=rq_no (rq_no_tl (ls:=ls) h0)
   rw [hy.1,hy.2]
   have hb:(tl == ([]:List UInt8))=false:=by simpa using h0
   have hlen:tl.length≤100000:=by
    have:=rq_join_len tl ls;omega
   repeat (first|refine W.gob rfl ?_|refine WL.nil ?_|refine WL.bt rfl rfl rfl zqo ?_|refine WL.bf rfl rfl rfl zqo ?_|refine WL.nt rfl rfl rfl zqo ?_|refine WL.nf rfl rfl rfl zqo ?_|refine WL.e1 rfl ?_|refine WL.gyes rfl rfl rfl rfl ?_|refine WL.opno rfl rfl rfl rfl rfl rfl rfl ?_|refine WL.len rfl rfl zql ?_|refine WL.idx rfl rfl zqo zqm ?_|refine WL.app rfl rfl rfl zqs ?_|refine W.condT rfl ?_|refine W.condF rfl ?_)
   (first|refine (?_:W _ _ _ _ _)|refine (?_:WL _ _ _ _ _ _)|skip)
   try dsimp only [St.put,Nat.reduceAdd]
   rw [hb]
   repeat (first|refine W.gob rfl ?_|refine WL.nil ?_|refine WL.bt rfl rfl rfl zqo ?_|refine WL.bf rfl rfl rfl zqo ?_|refine WL.nt rfl rfl rfl zqo ?_|refine WL.nf rfl rfl rfl zqo ?_|refine WL.e1 rfl ?_|refine WL.gyes rfl rfl rfl rfl ?_|refine WL.opno rfl rfl rfl rfl rfl rfl rfl ?_|refine WL.len rfl rfl zql ?_|refine WL.idx rfl rfl zqo zqm ?_|refine WL.app rfl rfl rfl zqs ?_|refine W.condT rfl ?_|refine W.condF rfl ?_)
   (first|refine (?_:W _ _ _ _ _)|refine (?_:WL _ _ _ _ _ _)|skip)
   try dsimp only [St.put,Nat.reduceAdd]
   refine WL.vl rfl (WV.callG hB rfl (callF Tryz.func19 rfl rfl) rfl rfl (cutNo_G tl ht zqo)) ?_
   repeat (first|refine W.gob rfl ?_|refine WL.nil ?_|refine WL.bt rfl rfl rfl zqo ?_|refine WL.bf rfl rfl rfl zqo ?_|refine WL.nt rfl rfl rfl zqo ?_|refine WL.nf rfl rfl rfl zqo ?_|refine WL.e1 rfl ?_|refine WL.gyes rfl rfl rfl rfl ?_|refine WL.opno rfl rfl rfl rfl rfl rfl rfl ?_|refine WL.len rfl rfl zql ?_|refine WL.idx rfl rfl zqo zqm ?_|refine WL.app rfl rfl rfl zqs ?_|refine W.condT rfl ?_|refine W.condF rfl ?_)
   (first|refine (?_:W _ _ _ _ _)|refine (?_:WL _ _ _ _ _ _)|skip)
   try dsimp only [St.put,Nat.reduceAdd]
   refine WL.vl rfl (WV.callG hB rfl (callF Tryz.func20 rfl rfl) rfl rfl (split_G tl zqo)) ?_
   repeat (first|refine W.gob rfl ?_|refine WL.nil ?_|refine WL.bt rfl rfl rfl zqo ?_|refine WL.bf rfl rfl rfl zqo ?_|refine WL.nt rfl rfl rfl zqo ?_|refine WL.nf rfl rfl rfl zqo ?_|refine WL.e1 rfl ?_|refine WL.gyes rfl rfl rfl rfl ?_|refine WL.opno rfl rfl rfl rfl rfl rfl rfl ?_|refine WL.len rfl rfl zql ?_|refine WL.idx rfl rfl zqo zqm ?_|refine WL.app rfl rfl rfl zqs ?_|refine W.condT rfl ?_|refine W.condF rfl ?_)
   (first|refine (?_:W _ _ _ _ _)|refine (?_:WL _ _ _ _ _ _)|skip)
   try dsimp only [St.put,Nat.reduceAdd]
   refine W.tr (Tr.nilLs (t:=2) 3 rfl) ?_
   exact W.ret (fin2 rfl rfl rfl rfl rfl rfl rfl)
 have hno:=hn _ (List.getElem_mem hlt)
 have hdl:=rq_drop_len tl ls k
 have hrest:=rq_rest ls tl hlt
 have hbadl:=rq_no_line (tl:=tl) hlt
 have hrow:((ls.take (k+1)).map rq_plX).map eLk=((ls.take k).map rq_plX).map eLk++[eLk (rq_plX ls[k])]:=by
  rw [List.take_succ_eq_append_getElem hlt,List.map_append,List.map_append];rfl
 have hplx:∀ {x},rq_pLn (rq_wds 32 ls[k])=some x→rq_plX ls[k]=x:=fun {x} h=>by unfold rq_plX;rw [h];rfl
 have hnext:(rq_pLn (rq_wds 32 ls[k])).isSome=true→∀ j (hj:j < ls.length),j < k+1→(rq_pLn (rq_wds 32 ls[j])).isSome=true:=fun h j hj hjk=>by
  by_cases e:j=k
  ·subst e;exact h
  ·exact hall j hj zqo
 rw [hrest] at hdl ⊢
 have hwb:=rq_wds_bytes 32 ls[k]
 obtain ⟨rs,hrs⟩:∃ z,rq_joinC 10 (ls.drop (k+1)) tl=z:=⟨_,rfl⟩
 have hL:((ls.take k).map rq_plX).length≤100000:=by rw [List.length_map,List.length_take];omega
 obtain ⟨ROW,hROW⟩:∃ z,(ls.take k).map rq_plX=z:=⟨_,rfl⟩
 rw [hROW] at hrow hL ⊢
 obtain ⟨ln,hln⟩:∃ z,ls[k]=z:=⟨_,rfl⟩
 rw [hln] at hno hdl hbadl hrow hplx hnext hwb ⊢
 rw [hrs] at hdl ⊢
 simp only [List.length_append,List.length_cons] at hdl
 have hb:((ln++10::rs) == ([]:List UInt8))=false:=by cases ln<;>rfl
 clear hall hrest
 repeat (first|refine W.gob rfl ?_|refine WL.nil ?_|refine WL.bt rfl rfl rfl zqo ?_|refine WL.bf rfl rfl rfl zqo ?_|refine WL.nt rfl rfl rfl zqo ?_|refine WL.nf rfl rfl rfl zqo ?_|refine WL.e1 rfl ?_|refine WL.gyes rfl rfl rfl rfl ?_|refine WL.opno rfl rfl rfl rfl rfl rfl rfl ?_|refine WL.len rfl rfl zql ?_|refine WL.idx rfl rfl zqo zqm ?_|refine WL.app rfl rfl rfl zqs ?_|refine W.condT rfl ?_|refine W.condF rfl ?_)
 (first|refine (?_:W _ _ _ _ _)|refine (?_:WL _ _ _ _ _ _)|skip)
 try dsimp only [St.put,Nat.reduceAdd]
 rw [hb]
 repeat (first|refine W.gob rfl ?_|refine WL.nil ?_|refine WL.bt rfl rfl rfl zqo ?_|refine WL.bf rfl rfl rfl zqo ?_|refine WL.nt rfl rfl rfl zqo ?_|refine WL.nf rfl rfl rfl zqo ?_|refine WL.e1 rfl ?_|refine WL.gyes rfl rfl rfl rfl ?_|refine WL.opno rfl rfl rfl rfl rfl rfl rfl ?_|refine WL.len rfl rfl zql ?_|refine WL.idx rfl rfl zqo zqm ?_|refine WL.app rfl rfl rfl zqs ?_|refine W.condT rfl ?_|refine W.condF rfl ?_)
 (first|refine (?_:W _ _ _ _ _)|refine (?_:WL _ _ _ _ _ _)|skip)
 try dsimp only [St.put,Nat.reduceAdd]
 refine WL.vl rfl (WV.callG hB rfl (callF Tryz.func19 rfl rfl) rfl rfl (cutAt_G ln rs hno zqo)) ?_
 repeat (first|refine W.gob rfl ?_|refine WL.nil ?_|refine WL.bt rfl rfl rfl zqo ?_|refine WL.bf rfl rfl rfl zqo ?_|refine WL.nt rfl rfl rfl zqo ?_|refine WL.nf rfl rfl rfl zqo ?_|refine WL.e1 rfl ?_|refine WL.gyes rfl rfl rfl rfl ?_|refine WL.opno rfl rfl rfl rfl rfl rfl rfl ?_|refine WL.len rfl rfl zql ?_|refine WL.idx rfl rfl zqo zqm ?_|refine WL.app rfl rfl rfl zqs ?_|refine W.condT rfl ?_|refine W.condF rfl ?_)
 (first|refine (?_:W _ _ _ _ _)|refine (?_:WL _ _ _ _ _ _)|skip)
 try dsimp only [St.put,Nat.reduceAdd]
 refine WL.vl rfl (WV.callG hB rfl (callF Tryz.func20 rfl rfl) rfl rfl (split_G ln zqo)) ?_
 by_cases h3:(rq_wds 32 ln).length=3
 rotate_left
 ·have hy:=rq_no (hbadl (rq_pLn_len h3))
  rw [hy.1,hy.2]
  obtain ⟨ws,hws⟩:∃ z,rq_wds 32 ln=z:=⟨_,rfl⟩
  rw [hws] at h3 ⊢
  repeat (first|refine W.gob rfl ?_|refine WL.nil ?_|refine WL.bt rfl rfl rfl zqo ?_|refine WL.bf rfl rfl rfl zqo ?_|refine WL.nt rfl rfl rfl zqo ?_|refine WL.nf rfl rfl rfl zqo ?_|refine WL.e1 rfl ?_|refine WL.gyes rfl rfl rfl rfl ?_|refine WL.opno rfl rfl rfl rfl rfl rfl rfl ?_|refine WL.len rfl rfl zql ?_|refine WL.idx rfl rfl zqo zqm ?_|refine WL.app rfl rfl rfl zqs ?_|refine W.condT rfl ?_|refine W.condF rfl ?_)
  (first|refine (?_:W _ _ _ _ _)|refine (?_:WL _ _ _ _ _ _)|skip)
  try dsimp only [St.put,Nat.reduceAdd]
  refine W.tr (Tr.nilLs (t:=2) 3 rfl) ?_
  exact W.ret (fin2 rfl rfl rfl rfl rfl rfl rfl)
 obtain ⟨a,b,d,hws⟩:=rq_three h3
 have hwa:=hwb a (by rw [hws];simp)
 have hwb':=hwb b (by rw [hws];simp)
 rw [hws] at hbadl hnext ⊢
 have hplx2:∀ {x},rq_pLn [a,b,d]=some x→rq_plX ln=x:=fun {x} h=>hplx (by rw [hws];exact h)
 clear hwb h3 hplx
 have hl3:([a,b,d]:List (List UInt8)).length=3:=rfl
 repeat (first|refine W.gob rfl ?_|refine WL.nil ?_|refine WL.bt rfl rfl rfl zqo ?_|refine WL.bf rfl rfl rfl zqo ?_|refine WL.nt rfl rfl rfl zqo ?_|refine WL.nf rfl rfl rfl zqo ?_|refine WL.e1 rfl ?_|refine WL.gyes rfl rfl rfl rfl ?_|refine WL.opno rfl rfl rfl rfl rfl rfl rfl ?_|refine WL.len rfl rfl zql ?_|refine WL.idx rfl rfl zqo zqm ?_|refine WL.app rfl rfl rfl zqs ?_|refine W.condT rfl ?_|refine W.condF rfl ?_)
 (first|refine (?_:W _ _ _ _ _)|refine (?_:WL _ _ _ _ _ _)|skip)
 try dsimp only [St.put,Nat.reduceAdd]
 refine WL.vx hB rfl rfl (callF Tryz.func21 rfl rfl) rfl rfl (atoi_G a zqo) fun r1 h1=>?_
 obtain ⟨n1,e1,rfl,q1⟩:=atS_val h1
 repeat (first|refine W.gob rfl ?_|refine WL.nil ?_|refine WL.bt rfl rfl rfl zqo ?_|refine WL.bf rfl rfl rfl zqo ?_|refine WL.nt rfl rfl rfl zqo ?_|refine WL.nf rfl rfl rfl zqo ?_|refine WL.e1 rfl ?_|refine WL.gyes rfl rfl rfl rfl ?_|refine WL.opno rfl rfl rfl rfl rfl rfl rfl ?_|refine WL.len rfl rfl zql ?_|refine WL.idx rfl rfl zqo zqm ?_|refine WL.app rfl rfl rfl zqs ?_|refine W.condT rfl ?_|refine W.condF rfl ?_)
 (first|refine (?_:W _ _ _ _ _)|refine (?_:WL _ _ _ _ _ _)|skip)
 try dsimp only [St.put,Nat.reduceAdd]
 refine WL.vx hB rfl rfl (callF Tryz.func21 rfl rfl) rfl rfl (atoi_G b zqo) fun r2 h2=>?_
 obtain ⟨n2,e2,rfl,q2⟩:=atS_val h2
 repeat (first|refine W.gob rfl ?_|refine WL.nil ?_|refine WL.bt rfl rfl rfl zqo ?_|refine WL.bf rfl rfl rfl zqo ?_|refine WL.nt rfl rfl rfl zqo ?_|refine WL.nf rfl rfl rfl zqo ?_|refine WL.e1 rfl ?_|refine WL.gyes rfl rfl rfl rfl ?_|refine WL.opno rfl rfl rfl rfl rfl rfl rfl ?_|refine WL.len rfl rfl zql ?_|refine WL.idx rfl rfl zqo zqm ?_|refine WL.app rfl rfl rfl zqs ?_|refine W.condT rfl ?_|refine W.condF rfl ?_)
 (first|refine (?_:W _ _ _ _ _)|refine (?_:WL _ _ _ _ _ _)|skip)
 try dsimp only [St.put,Nat.reduceAdd]
 refine W.drawK zqk zqk ?_
 repeat (first|refine DK.st rfl ?_|refine DK.ar rfl rfl z35i ?_|refine DK.idx rfl rfl zqo zqm ?_|refine DK.nil ?_)
 refine DK.vl rfl (WV.callG hB rfl (callF Tryz.func13 rfl rfl) rfl rfl fields_G) ?_
 repeat (first|refine DK.st rfl ?_|refine DK.ar rfl rfl z35i ?_|refine DK.idx rfl rfl zqo zqm ?_|refine DK.nil ?_)
 refine DK.vl rfl (WV.call rfl (callF Tryz.func22 rfl rfl) rfl rfl (indexS_FS d)) ?_
 have hix:-1≤rq_ixV d∧rq_ixV d≤7:=by unfold rq_ixV;split<;>omega
 repeat (first|refine DK.st rfl ?_|refine DK.ar rfl rfl z35i ?_|refine DK.idx rfl rfl zqo zqm ?_|refine DK.nil ?_)
 rcases q1 with ⟨rfl,ha⟩|⟨⟨T1,p1,rfl⟩,ha⟩
 rotate_left
 ·have hy:=rq_no (hbadl (rq_pLn_a ha))
  rw [hy.1,hy.2]
  repeat (first|refine W.gob rfl ?_|refine WL.nil ?_|refine WL.bt rfl rfl rfl zqo ?_|refine WL.bf rfl rfl rfl zqo ?_|refine WL.nt rfl rfl rfl zqo ?_|refine WL.nf rfl rfl rfl zqo ?_|refine WL.e1 rfl ?_|refine WL.gyes rfl rfl rfl rfl ?_|refine WL.opno rfl rfl rfl rfl rfl rfl rfl ?_|refine WL.len rfl rfl zql ?_|refine WL.idx rfl rfl zqo zqm ?_|refine WL.app rfl rfl rfl zqs ?_|refine W.condT rfl ?_|refine W.condF rfl ?_)
  (first|refine (?_:W _ _ _ _ _)|refine (?_:WL _ _ _ _ _ _)|skip)
  try dsimp only [St.put,Nat.reduceAdd]
  refine WL.ine rfl rfl ?_
  repeat (first|refine W.gob rfl ?_|refine WL.nil ?_|refine WL.bt rfl rfl rfl zqo ?_|refine WL.bf rfl rfl rfl zqo ?_|refine WL.nt rfl rfl rfl zqo ?_|refine WL.nf rfl rfl rfl zqo ?_|refine WL.e1 rfl ?_|refine WL.gyes rfl rfl rfl rfl ?_|refine WL.opno rfl rfl rfl rfl rfl rfl rfl ?_|refine WL.len rfl rfl zql ?_|refine WL.idx rfl rfl zqo zqm ?_|refine WL.app rfl rfl rfl zqs ?_|refine W.condT rfl ?_|refine W.condF rfl ?_)
  (first|refine (?_:W _ _ _ _ _)|refine (?_:WL _ _ _ _ _ _)|skip)
  try dsimp only [St.put,Nat.reduceAdd]
  refine W.tr (Tr.nilLs (t:=2) 3 rfl) ?_
  exact W.ret (fin2 rfl rfl rfl rfl rfl rfl rfl)
 rcases q2 with ⟨rfl,hb2⟩|⟨⟨T2,p2,rfl⟩,hb2⟩
 rotate_left
 ·have hy:=rq_no (hbadl (rq_pLn_b ha hb2))
  rw [hy.1,hy.2]
  repeat (first|refine W.gob rfl ?_|refine WL.nil ?_|refine WL.bt rfl rfl rfl zqo ?_|refine WL.bf rfl rfl rfl zqo ?_|refine WL.nt rfl rfl rfl zqo ?_|refine WL.nf rfl rfl rfl zqo ?_|refine WL.e1 rfl ?_|refine WL.gyes rfl rfl rfl rfl ?_|refine WL.opno rfl rfl rfl rfl rfl rfl rfl ?_|refine WL.len rfl rfl zql ?_|refine WL.idx rfl rfl zqo zqm ?_|refine WL.app rfl rfl rfl zqs ?_|refine W.condT rfl ?_|refine W.condF rfl ?_)
  (first|refine (?_:W _ _ _ _ _)|refine (?_:WL _ _ _ _ _ _)|skip)
  try dsimp only [St.put,Nat.reduceAdd]
  refine WL.ine rfl rfl ?_
  repeat (first|refine W.gob rfl ?_|refine WL.nil ?_|refine WL.bt rfl rfl rfl zqo ?_|refine WL.bf rfl rfl rfl zqo ?_|refine WL.nt rfl rfl rfl zqo ?_|refine WL.nf rfl rfl rfl zqo ?_|refine WL.e1 rfl ?_|refine WL.gyes rfl rfl rfl rfl ?_|refine WL.opno rfl rfl rfl rfl rfl rfl rfl ?_|refine WL.len rfl rfl zql ?_|refine WL.idx rfl rfl zqo zqm ?_|refine WL.app rfl rfl rfl zqs ?_|refine W.condT rfl ?_|refine W.condF rfl ?_)
  (first|refine (?_:W _ _ _ _ _)|refine (?_:WL _ _ _ _ _ _)|skip)
  try dsimp only [St.put,Nat.reduceAdd]
  refine WL.ine rfl rfl ?_
  repeat (first|refine W.gob rfl ?_|refine WL.nil ?_|refine WL.bt rfl rfl rfl zqo ?_|refine WL.bf rfl rfl rfl zqo ?_|refine WL.nt rfl rfl rfl zqo ?_|refine WL.nf rfl rfl rfl zqo ?_|refine WL.e1 rfl ?_|refine WL.gyes rfl rfl rfl rfl ?_|refine WL.opno rfl rfl rfl rfl rfl rfl rfl ?_|refine WL.len rfl rfl zql ?_|refine WL.idx rfl rfl zqo zqm ?_|refine WL.app rfl rfl rfl zqs ?_|refine W.condT rfl ?_|refine W.condF rfl ?_)
  (first|refine (?_:W _ _ _ _ _)|refine (?_:WL _ _ _ _ _ _)|skip)
  try dsimp only [St.put,Nat.reduceAdd]
  refine W.tr (Tr.nilLs (t:=2) 3 rfl) ?_
  exact W.ret (fin2 rfl rfl rfl rfl rfl rfl rfl)
 have hp:=rq_pLn_d (d:=d) ha hb2
 by_cases hd:rq_nmL.idxOf d < 8
 rotate_left
 ·rw [if_neg hd] at hp
  have hy:=rq_no (hbadl hp)
  rw [hy.1,hy.2]
  have hv:rq_ixV d=-1:=if_neg hd
  repeat (first|refine W.gob rfl ?_|refine WL.nil ?_|refine WL.bt rfl rfl rfl zqo ?_|refine WL.bf rfl rfl rfl zqo ?_|refine WL.nt rfl rfl rfl zqo ?_|refine WL.nf rfl rfl rfl zqo ?_|refine WL.e1 rfl ?_|refine WL.gyes rfl rfl rfl rfl ?_|refine WL.opno rfl rfl rfl rfl rfl rfl rfl ?_|refine WL.len rfl rfl zql ?_|refine WL.idx rfl rfl zqo zqm ?_|refine WL.app rfl rfl rfl zqs ?_|refine W.condT rfl ?_|refine W.condF rfl ?_)
  (first|refine (?_:W _ _ _ _ _)|refine (?_:WL _ _ _ _ _ _)|skip)
  try dsimp only [St.put,Nat.reduceAdd]
  refine WL.ine rfl rfl ?_
  repeat (first|refine W.gob rfl ?_|refine WL.nil ?_|refine WL.bt rfl rfl rfl zqo ?_|refine WL.bf rfl rfl rfl zqo ?_|refine WL.nt rfl rfl rfl zqo ?_|refine WL.nf rfl rfl rfl zqo ?_|refine WL.e1 rfl ?_|refine WL.gyes rfl rfl rfl rfl ?_|refine WL.opno rfl rfl rfl rfl rfl rfl rfl ?_|refine WL.len rfl rfl zql ?_|refine WL.idx rfl rfl zqo zqm ?_|refine WL.app rfl rfl rfl zqs ?_|refine W.condT rfl ?_|refine W.condF rfl ?_)
  (first|refine (?_:W _ _ _ _ _)|refine (?_:WL _ _ _ _ _ _)|skip)
  try dsimp only [St.put,Nat.reduceAdd]
  refine WL.ine rfl rfl ?_
  repeat (first|refine W.gob rfl ?_|refine WL.nil ?_|refine WL.bt rfl rfl rfl zqo ?_|refine WL.bf rfl rfl rfl zqo ?_|refine WL.nt rfl rfl rfl zqo ?_|refine WL.nf rfl rfl rfl zqo ?_|refine WL.e1 rfl ?_|refine WL.gyes rfl rfl rfl rfl ?_|refine WL.opno rfl rfl rfl rfl rfl rfl rfl ?_|refine WL.len rfl rfl zql ?_|refine WL.idx rfl rfl zqo zqm ?_|refine WL.app rfl rfl rfl zqs ?_|refine W.condT rfl ?_|refine W.condF rfl ?_)
  (first|refine (?_:W _ _ _ _ _)|refine (?_:WL _ _ _ _ _ _)|skip)
  try dsimp only [St.put,Nat.reduceAdd]
  refine W.tr (Tr.nilLs (t:=2) 3 rfl) ?_
  exact W.ret (fin2 rfl rfl rfl rfl rfl rfl rfl)
 rw [if_pos hd] at hp
 have hv:rq_ixV d=((rq_nmL.idxOf d:Nat):Int):=if_pos hd
 have hx:=hplx2 hp
 rw [hx,← hv] at hrow
 have hnx:=hnext (by rw [hp];rfl)
 repeat (first|refine W.gob rfl ?_|refine WL.nil ?_|refine WL.bt rfl rfl rfl zqo ?_|refine WL.bf rfl rfl rfl zqo ?_|refine WL.nt rfl rfl rfl zqo ?_|refine WL.nf rfl rfl rfl zqo ?_|refine WL.e1 rfl ?_|refine WL.gyes rfl rfl rfl rfl ?_|refine WL.opno rfl rfl rfl rfl rfl rfl rfl ?_|refine WL.len rfl rfl zql ?_|refine WL.idx rfl rfl zqo zqm ?_|refine WL.app rfl rfl rfl zqs ?_|refine W.condT rfl ?_|refine W.condF rfl ?_)
 (first|refine (?_:W _ _ _ _ _)|refine (?_:WL _ _ _ _ _ _)|skip)
 try dsimp only [St.put,Nat.reduceAdd]
 refine WL.ine rfl rfl ?_
 repeat (first|refine W.gob rfl ?_|refine WL.nil ?_|refine WL.bt rfl rfl rfl zqo ?_|refine WL.bf rfl rfl rfl zqo ?_|refine WL.nt rfl rfl rfl zqo ?_|refine WL.nf rfl rfl rfl zqo ?_|refine WL.e1 rfl ?_|refine WL.gyes rfl rfl rfl rfl ?_|refine WL.opno rfl rfl rfl rfl rfl rfl rfl ?_|refine WL.len rfl rfl zql ?_|refine WL.idx rfl rfl zqo zqm ?_|refine WL.app rfl rfl rfl zqs ?_|refine W.condT rfl ?_|refine W.condF rfl ?_)
 (first|refine (?_:W _ _ _ _ _)|refine (?_:WL _ _ _ _ _ _)|skip)
 try dsimp only [St.put,Nat.reduceAdd]
 refine WL.ine rfl rfl ?_
 repeat (first|refine W.gob rfl ?_|refine WL.nil ?_|refine WL.bt rfl rfl rfl zqo ?_|refine WL.bf rfl rfl rfl zqo ?_|refine WL.nt rfl rfl rfl zqo ?_|refine WL.nf rfl rfl rfl zqo ?_|refine WL.e1 rfl ?_|refine WL.gyes rfl rfl rfl rfl ?_|refine WL.opno rfl rfl rfl rfl rfl rfl rfl ?_|refine WL.len rfl rfl zql ?_|refine WL.idx rfl rfl zqo zqm ?_|refine WL.app rfl rfl rfl zqs ?_|refine W.condT rfl ?_|refine W.condF rfl ?_)
 (first|refine (?_:W _ _ _ _ _)|refine (?_:WL _ _ _ _ _ _)|skip)
 try dsimp only [St.put,Nat.reduceAdd]
 refine ⟨k+1,⟨by omega,hnx⟩,by omega,?_⟩
 rw [hrs,hrow]
 exact (zqu (fun q=>bif Nat.beq q 0 then 2 else q) (by repeat (first|exact trivial|refine ⟨⟨?_,?_,?_⟩,?_⟩|rfl|exact congrArg (fun q=>some (AO.row _ _ q)) (by first|rfl|(simp;done)|(simp [eInt];done)|(simp [eLk];done)))) rfl)
end Go.Proofs.YtockempedekkkaaGreatDoor
