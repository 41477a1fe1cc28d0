/- Whether two instruments are the same: program and reference. -/
import Derived.Test.YtgelfflighgajaaGreatDoorESTq
set_option maxHeartbeats 8000000
set_option maxRecDepth 100000
set_option linter.unusedVariables false
set_option linter.unusedSimpArgs false
namespace Go.Proofs.YtgelfflighgajaaGreatDoor
open Go.RowKit
theorem z47o {p : Prop} (h : p := by omega) : p := h
theorem z47k {α : Sort _} {a b : α} (h : a = b := by kernel_rfl) : a = b := h
theorem z47m {α : Type} {l : List α} {i : Nat} {x : Option α} (h : l[i]? = x := by first | exact map_at (by omega) | exact map_atZ (by omega) (by omega)) : l[i]? = x := h
theorem z47l {m n : Nat} (h : m = n := by first | exact List.length_map _ | exact List.length_replicate | rfl) : m = n := h
theorem z47t {C : Cx} {σ σ' : St} (ρ : Nat → Nat) (ht : TrT σ ρ σ'.nk σ'.t := by repeat (first | exact trivial | refine ⟨⟨?_, ?_⟩, ?_⟩ | rfl)) (hm : TrM σ ρ σ'.nk σ'.M := by repeat (first | exact trivial | refine ⟨⟨?_, ?_, ?_⟩, ?_⟩ | rfl)) (hi : (injB ρ (σ'.M.map (·.1)) && pinB ρ σ'.nk C.np) = true := by rfl) : Tr C σ σ' := Tr.ren ρ ht hm hi
theorem eqs_crs (x y:Int) (b:Bool) (x2 y2:Int) (b2:Bool) (w:World):(Op.equalIn 10000 98 (.agg #[.int .i64 x,.int .i64 y,.bool b]) (.agg #[.int .i64 x2,.int .i64 y2,.bool b2])).run Tryz.prog w=.ok (decide ((x,y,b)=(x2,y2,b2))) w:=by
 rw [run_equalIn_agg w 9999 _ _ _ z47k z47k]
 refine Eq.trans (congrArg (fun fs=>Sem.run _ (Op.eqFields 9999 _ _ fs) w) (rfl:(Tryz.prog.fieldsOf 98).toList=[_,_,_])) ?_
 by_cases h1:x=x2
 ·subst h1
  by_cases h2:y=y2
  ·subst h2
   cases b<;>cases b2<;>simp [go_sem]
  ·simp [go_sem,h2]
 ·simp [go_sem,h1]
def sameI (cs:List (Int×Int×Bool))(st:List Int)(cs2:List (Int×Int×Bool))(st2:List Int):Bool:=decide (cs=cs2∧st=st2)
theorem ext_len {α:Type} {l m:List α} (h1:l.length=m.length)(h2:∀ k(h:k<l.length),l[k]=m[k]'(by omega)):l=m:=List.ext_getElem h1 fun i a b=>h2 i a
theorem ne_at {α:Type} {l m:List α} {k:Nat} (h1:k<l.length)(h2:k<m.length)(h:¬ l[k]=m[k]):¬ l=m:=fun e=>by subst e;exact h rfl
theorem rSameI_FS (cs:List (Int×Int×Bool)) (st:List Int) (cs2:List (Int×Int×Bool)) (st2:List Int) (h1:cs.length≤64) (h2:st.length≤64) (h3:cs2.length≤64) (h4:st2.length≤64):Ctr Tryz.prog 29 [.ag (eIns cs st),.ag (eIns cs2 st2)] (.sc (.bool (sameI cs st cs2 st2))):=by
 by_cases hl1:cs.length=cs2.length
 rotate_left
 ·have e:sameI cs st cs2 st2=false:=decide_eq_false fun h=>hl1 (by rw [h.1])
  rw [e]
  refine Ctr.intro Tryz.func29 rfl Tryz.ntmps29 (Nat.le_of_ble_eq_true rfl) (bd_all rfl) fun w0 F0=>?_;dsimp only [St.init,number,Nat.reduceAdd]
  repeat (first|refine W.gob rfl ?_|refine WL.nil ?_|refine WL.nt rfl rfl rfl z47o ?_|refine WL.e1 rfl ?_|refine WL.opno rfl rfl rfl rfl rfl rfl rfl ?_|refine WL.len rfl rfl z47l ?_|refine W.condT rfl ?_)
  refine (?_:W _ _ _ _ _)
  exact W.ret (fin1 rfl rfl rfl rfl)
 by_cases hl2:st.length=st2.length
 rotate_left
 ·have e:sameI cs st cs2 st2=false:=decide_eq_false fun h=>hl2 (by rw [h.2])
  rw [e]
  refine Ctr.intro Tryz.func29 rfl Tryz.ntmps29 (Nat.le_of_ble_eq_true rfl) (bd_all rfl) fun w0 F0=>?_;dsimp only [St.init,number,Nat.reduceAdd]
  repeat (first|refine W.gob rfl ?_|refine WL.nil ?_|refine WL.nt rfl rfl rfl z47o ?_|refine WL.nf rfl rfl rfl z47o ?_|refine WL.e1 rfl ?_|refine WL.gyes rfl rfl rfl rfl ?_|refine WL.len rfl rfl z47l ?_|refine W.condT rfl ?_)
  refine (?_:W _ _ _ _ _)
  exact W.ret (fin1 rfl rfl rfl rfl)
 refine Ctr.intro Tryz.func29 rfl Tryz.ntmps29 (Nat.le_of_ble_eq_true rfl) (bd_all rfl) fun w0 F0=>?_;dsimp only [St.init,number,Nat.reduceAdd]
 repeat (first|refine W.gob rfl ?_|refine WL.nil ?_|refine WL.nf rfl rfl rfl z47o ?_|refine WL.e1 rfl ?_|refine WL.gyes rfl rfl rfl rfl ?_|refine WL.len rfl rfl z47l ?_|refine W.condF rfl ?_)
 refine (?_:W _ _ _ _ _)
 refine W.loop (fun k:Nat=>k≤cs.length∧∀ i (hi:i < k) (h:i < cs.length),cs[i]=cs2[i]' z47o) (fun k=>⟨[(2,.pt 0 0 0),(3,.pt 1 0 0),(5,.sc (.int .i64 k))],[(0,.box 25 (eIns cs st)),(1,.box 25 (eIns cs2 st2))],2⟩) (fun k=>cs.length - k) 0 ⟨by omega,fun i hi=>by omega⟩ (z47t id) fun k hk=>?_
 obtain ⟨hk,hgood⟩:=hk
 by_cases hlt:k < cs.length
 ·have hlt2:k < cs2.length:=by omega
  by_cases he:cs[k]=cs2[k]
  ·repeat (first|refine W.gob rfl ?_|refine WL.nil ?_|refine WL.bt rfl rfl rfl z47o ?_|refine WL.e1 rfl ?_|refine WL.len rfl rfl z47l ?_|refine W.condT rfl ?_)
   refine (?_:W _ _ _ _ _)
   refine W.drawK z47k z47k ?_
   repeat (first|refine DK.st rfl ?_|refine DK.idx rfl rfl z47o z47m ?_)
   refine DK.vl rfl (WV.ane rfl rfl rfl rfl rfl z47k (fun w=>eqs_crs _ _ _ _ _ _ w)) ?_
   repeat refine DK.nil ?_
   have hd:decide ((cs[k].1,cs[k].2.1,cs[k].2.2)=(cs2[k].1,cs2[k].2.1,cs2[k].2.2))=true:=decide_eq_true he
   rw [hd]
   repeat (first|refine W.go rfl ?_|refine WL.ev rfl ?_|refine WL.ar rfl rfl (by unfold I64;omega) ?_|refine W.condF rfl ?_)
   exact ⟨k+1,⟨by omega,fun i hi h=>by
    by_cases e:i=k
    ·subst e;exact he
    ·exact hgood i z47o h⟩,by omega,(z47t id)⟩
  ·have e:sameI cs st cs2 st2=false:=decide_eq_false fun h=>ne_at hlt hlt2 he h.1
   rw [e]
   repeat (first|refine W.gob rfl ?_|refine WL.nil ?_|refine WL.bt rfl rfl rfl z47o ?_|refine WL.e1 rfl ?_|refine WL.len rfl rfl z47l ?_|refine W.condT rfl ?_)
   refine (?_:W _ _ _ _ _)
   refine W.drawK z47k z47k ?_
   repeat (first|refine DK.st rfl ?_|refine DK.idx rfl rfl z47o z47m ?_)
   refine DK.vl rfl (WV.ane rfl rfl rfl rfl rfl z47k (fun w=>eqs_crs _ _ _ _ _ _ w)) ?_
   repeat refine DK.nil ?_
   have hd:decide ((cs[k].1,cs[k].2.1,cs[k].2.2)=(cs2[k].1,cs2[k].2.1,cs2[k].2.2))=false:=decide_eq_false he
   rw [hd]
   repeat (first|refine W.go rfl ?_|refine W.condT rfl ?_)
   refine (?_:W _ _ _ _ _)
   exact W.ret (fin1 rfl rfl rfl rfl)
 have hcs:cs=cs2:=ext_len hl1 fun q hq=>hgood q z47o hq
 repeat (first|refine W.gob rfl ?_|refine WL.nil ?_|refine WL.bf rfl rfl rfl z47o ?_|refine WL.e1 rfl ?_|refine WL.len rfl rfl z47l ?_|refine W.condF rfl ?_)
 refine (?_:W _ _ _ _ _)
 refine W.loop (fun k:Nat=>k≤st.length∧∀ i (hi:i < k) (h:i < st.length),st[i]=st2[i]' z47o) (fun k=>⟨[(2,.pt 0 0 0),(3,.pt 1 0 0),(6,.sc (.int .i64 k))],[(0,.box 25 (eIns cs st)),(1,.box 25 (eIns cs2 st2))],2⟩) (fun k=>st.length - k) 0 ⟨by omega,fun i hi=>by omega⟩ (z47t id) fun k hk=>?_
 obtain ⟨hk,hgood2⟩:=hk
 by_cases hlt:k < st.length
 ·have hlt2:k < st2.length:=by omega
  by_cases he:st[k]=st2[k]
  ·repeat (first|refine W.gob rfl ?_|refine WL.nil ?_|refine WL.bt rfl rfl rfl z47o ?_|refine WL.e1 rfl ?_|refine WL.len rfl rfl z47l ?_|refine W.condT rfl ?_)
   refine (?_:W _ _ _ _ _)
   refine W.drawK z47k z47k ?_
   repeat (first|refine DK.st rfl ?_|refine DK.idx rfl rfl z47o z47m ?_|refine DK.nil ?_)
   have hd:decide (st[k]=st2[k])=true:=decide_eq_true he
   rw [hd]
   repeat (first|refine W.go rfl ?_|refine WL.ev rfl ?_|refine WL.ar rfl rfl (by unfold I64;omega) ?_|refine W.condF rfl ?_)
   exact ⟨k+1,⟨by omega,fun i hi h=>by
    by_cases e:i=k
    ·subst e;exact he
    ·exact hgood2 i z47o h⟩,by omega,(z47t id)⟩
  ·have e:sameI cs st cs2 st2=false:=decide_eq_false fun h=>ne_at hlt hlt2 he h.2
   rw [e]
   repeat (first|refine W.gob rfl ?_|refine WL.nil ?_|refine WL.bt rfl rfl rfl z47o ?_|refine WL.e1 rfl ?_|refine WL.len rfl rfl z47l ?_|refine W.condT rfl ?_)
   refine (?_:W _ _ _ _ _)
   refine W.drawK z47k z47k ?_
   repeat (first|refine DK.st rfl ?_|refine DK.idx rfl rfl z47o z47m ?_|refine DK.nil ?_)
   have hd:decide (st[k]=st2[k])=false:=decide_eq_false he
   rw [hd]
   repeat (first|refine W.go rfl ?_|refine W.condT rfl ?_)
   refine (?_:W _ _ _ _ _)
   exact W.ret (fin1 rfl rfl rfl rfl)
 have hst:st=st2:=ext_len hl2 fun q hq=>hgood2 q z47o hq
 have e:sameI cs st cs2 st2=true:=decide_eq_true ⟨hcs,hst⟩
 rw [e]
 repeat (first|refine W.gob rfl ?_|refine WL.nil ?_|refine WL.bf rfl rfl rfl z47o ?_|refine WL.e1 rfl ?_|refine WL.len rfl rfl z47l ?_|refine W.condF rfl ?_)
 refine (?_:W _ _ _ _ _)
 exact W.ret (fin1 rfl rfl rfl rfl)
theorem pSameI_FS (cs:List (Int×Int×Bool)) (st:List Int) (cs2:List (Int×Int×Bool)) (st2:List Int) (h1:cs.length≤64) (h2:st.length≤64) (h3:cs2.length≤64) (h4:st2.length≤64):Ctr Tryz.prog 89 [.ag (eIns cs st),.ag (eIns cs2 st2)] (.sc (.bool (sameI cs st cs2 st2))):=by
 by_cases hl1:cs.length=cs2.length
 rotate_left
 ·have e:sameI cs st cs2 st2=false:=decide_eq_false fun h=>hl1 (by rw [h.1])
  rw [e]
  refine Ctr.intro Tryz.func89 rfl Tryz.ntmps89 (Nat.le_of_ble_eq_true rfl) (bd_all rfl) fun w0 F0=>?_;dsimp only [St.init,number,Nat.reduceAdd]
  repeat (first|refine W.gob rfl ?_|refine WL.nil ?_|refine WL.nt rfl rfl rfl z47o ?_|refine WL.e1 rfl ?_|refine WL.opno rfl rfl rfl rfl rfl rfl rfl ?_|refine WL.len rfl rfl z47l ?_|refine W.condT rfl ?_)
  refine (?_:W _ _ _ _ _)
  exact W.ret (fin1 rfl rfl rfl rfl)
 by_cases hl2:st.length=st2.length
 rotate_left
 ·have e:sameI cs st cs2 st2=false:=decide_eq_false fun h=>hl2 (by rw [h.2])
  rw [e]
  refine Ctr.intro Tryz.func89 rfl Tryz.ntmps89 (Nat.le_of_ble_eq_true rfl) (bd_all rfl) fun w0 F0=>?_;dsimp only [St.init,number,Nat.reduceAdd]
  repeat (first|refine W.gob rfl ?_|refine WL.nil ?_|refine WL.nt rfl rfl rfl z47o ?_|refine WL.nf rfl rfl rfl z47o ?_|refine WL.e1 rfl ?_|refine WL.gyes rfl rfl rfl rfl ?_|refine WL.len rfl rfl z47l ?_|refine W.condT rfl ?_)
  refine (?_:W _ _ _ _ _)
  exact W.ret (fin1 rfl rfl rfl rfl)
 refine Ctr.intro Tryz.func89 rfl Tryz.ntmps89 (Nat.le_of_ble_eq_true rfl) (bd_all rfl) fun w0 F0=>?_;dsimp only [St.init,number,Nat.reduceAdd]
 repeat (first|refine W.gob rfl ?_|refine WL.nil ?_|refine WL.nf rfl rfl rfl z47o ?_|refine WL.e1 rfl ?_|refine WL.gyes rfl rfl rfl rfl ?_|refine WL.len rfl rfl z47l ?_|refine W.condF rfl ?_)
 refine (?_:W _ _ _ _ _)
 refine W.loop (fun k:Nat=>k≤cs.length∧∀ i (hi:i < k) (h:i < cs.length),cs[i]=cs2[i]' z47o) (fun k=>⟨[(2,.pt 0 0 0),(3,.pt 1 0 0),(25,.sc (.int .i64 cs.length)),(26,.sc (.int .i64 k))],[(0,.box 25 (eIns cs st)),(1,.box 25 (eIns cs2 st2))],2⟩) (fun k=>cs.length - k) 0 ⟨by omega,fun i hi=>by omega⟩ (z47t id) fun k hk=>?_
 obtain ⟨hk,hgood⟩:=hk
 by_cases hlt:k < cs.length
 ·have hlt2:k < cs2.length:=by omega
  by_cases he:cs[k]=cs2[k]
  ·repeat (first|refine W.gob rfl ?_|refine WL.nil ?_|refine WL.bt rfl rfl rfl z47o ?_|refine WL.e1 rfl ?_|refine W.condT rfl ?_)
   refine (?_:W _ _ _ _ _)
   refine W.drawK z47k z47k ?_
   repeat (first|refine DK.st rfl ?_|refine DK.idx rfl rfl z47o z47m ?_)
   refine DK.vl rfl (WV.ane rfl rfl rfl rfl rfl z47k (fun w=>eqs_crs _ _ _ _ _ _ w)) ?_
   repeat refine DK.nil ?_
   have hd:decide ((cs[k].1,cs[k].2.1,cs[k].2.2)=(cs2[k].1,cs2[k].2.1,cs2[k].2.2))=true:=decide_eq_true he
   rw [hd]
   repeat (first|refine W.go rfl ?_|refine WL.ev rfl ?_|refine WL.ar rfl rfl (by unfold I64;omega) ?_|refine W.condF rfl ?_)
   exact ⟨k+1,⟨by omega,fun i hi h=>by
    by_cases e:i=k
    ·subst e;exact he
    ·exact hgood i z47o h⟩,by omega,(z47t id)⟩
  ·have e:sameI cs st cs2 st2=false:=decide_eq_false fun h=>ne_at hlt hlt2 he h.1
   rw [e]
   repeat (first|refine W.gob rfl ?_|refine WL.nil ?_|refine WL.bt rfl rfl rfl z47o ?_|refine WL.e1 rfl ?_|refine W.condT rfl ?_)
   refine (?_:W _ _ _ _ _)
   refine W.drawK z47k z47k ?_
   repeat (first|refine DK.st rfl ?_|refine DK.idx rfl rfl z47o z47m ?_)
   refine DK.vl rfl (WV.ane rfl rfl rfl rfl rfl z47k (fun w=>eqs_crs _ _ _ _ _ _ w)) ?_
   repeat refine DK.nil ?_
   have hd:decide ((cs[k].1,cs[k].2.1,cs[k].2.2)=(cs2[k].1,cs2[k].2.1,cs2[k].2.2))=false:=decide_eq_false he
   rw [hd]
   repeat (first|refine W.go rfl ?_|refine W.condT rfl ?_)
   refine (?_:W _ _ _ _ _)
   exact W.ret (fin1 rfl rfl rfl rfl)
 have hcs:cs=cs2:=ext_len hl1 fun q hq=>hgood q z47o hq
 repeat (first|refine W.gob rfl ?_|refine WL.nil ?_|refine WL.bf rfl rfl rfl z47o ?_|refine WL.e1 rfl ?_|refine WL.len rfl rfl z47l ?_|refine W.condF rfl ?_)
 refine (?_:W _ _ _ _ _)
 refine W.loop (fun k:Nat=>k≤st.length∧∀ i (hi:i < k) (h:i < st.length),st[i]=st2[i]' z47o) (fun k=>⟨[(2,.pt 0 0 0),(3,.pt 1 0 0),(43,.sc (.int .i64 st.length)),(44,.sc (.int .i64 k))],[(0,.box 25 (eIns cs st)),(1,.box 25 (eIns cs2 st2))],2⟩) (fun k=>st.length - k) 0 ⟨by omega,fun i hi=>by omega⟩ (z47t id) fun k hk=>?_
 obtain ⟨hk,hgood2⟩:=hk
 by_cases hlt:k < st.length
 ·have hlt2:k < st2.length:=by omega
  by_cases he:st[k]=st2[k]
  ·repeat (first|refine W.gob rfl ?_|refine WL.nil ?_|refine WL.bt rfl rfl rfl z47o ?_|refine WL.e1 rfl ?_|refine W.condT rfl ?_)
   refine (?_:W _ _ _ _ _)
   refine W.drawK z47k z47k ?_
   repeat (first|refine DK.st rfl ?_|refine DK.idx rfl rfl z47o z47m ?_|refine DK.nil ?_)
   have hd:decide (st[k]=st2[k])=true:=decide_eq_true he
   rw [hd]
   repeat (first|refine W.go rfl ?_|refine WL.ev rfl ?_|refine WL.ar rfl rfl (by unfold I64;omega) ?_|refine W.condF rfl ?_)
   exact ⟨k+1,⟨by omega,fun i hi h=>by
    by_cases e:i=k
    ·subst e;exact he
    ·exact hgood2 i z47o h⟩,by omega,(z47t id)⟩
  ·have e:sameI cs st cs2 st2=false:=decide_eq_false fun h=>ne_at hlt hlt2 he h.2
   rw [e]
   repeat (first|refine W.gob rfl ?_|refine WL.nil ?_|refine WL.bt rfl rfl rfl z47o ?_|refine WL.e1 rfl ?_|refine W.condT rfl ?_)
   refine (?_:W _ _ _ _ _)
   refine W.drawK z47k z47k ?_
   repeat (first|refine DK.st rfl ?_|refine DK.idx rfl rfl z47o z47m ?_|refine DK.nil ?_)
   have hd:decide (st[k]=st2[k])=false:=decide_eq_false he
   rw [hd]
   repeat (first|refine W.go rfl ?_|refine W.condT rfl ?_)
   refine (?_:W _ _ _ _ _)
   exact W.ret (fin1 rfl rfl rfl rfl)
 have hst:st=st2:=ext_len hl2 fun q hq=>hgood2 q z47o hq
 have e:sameI cs st cs2 st2=true:=decide_eq_true ⟨hcs,hst⟩
 rw [e]
 repeat (first|refine W.gob rfl ?_|refine WL.nil ?_|refine WL.bf rfl rfl rfl z47o ?_|refine WL.e1 rfl ?_|refine W.condF rfl ?_)
 refine (?_:W _ _ _ _ _)
 exact W.ret (fin1 rfl rfl rfl rfl)
end Go.Proofs.YtgelfflighgajaaGreatDoor
