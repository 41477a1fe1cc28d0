/- Whether two instruments are the same: program and reference. -/
import Derived.Test.YtaeelcfjkhfpkaaGreatBwNq
set_option maxHeartbeats 8000000
set_option maxRecDepth 100000
set_option linter.unusedVariables false
set_option linter.unusedSimpArgs false
namespace Go.Proofs.YtaeelcfjkhfpkaaGreat
open Go.RowKit
theorem eqs_crs (x y:Int) (b:Bool) (x2 y2:Int) (b2:Bool) (w:World):(Op.equalIn 10000 70 (.agg #[.int .i64 x,.int .i64 y,.bool b]) (.agg #[.int .i64 x2,.int .i64 y2,.bool b2])).run Tryz.prog w=.ok (decide ((x,y,b)=(x2,y2,b2))) w:=by
 rw [run_equalIn_agg w 9999 _ _ _ zqk zqk]
 refine Eq.trans (congrArg (fun fs=>Sem.run _ (Op.eqFields 9999 _ _ fs) w) (rfl:(Tryz.prog.fieldsOf 70).toList=[_,_,_])) ?_
 by_cases h1:x=x2
 ·subst h1
  by_cases h2:y=y2
  ·subst h2
   cases b<;>cases b2<;>simp [go_sem]
  ·simp [go_sem,h2]
 ·simp [go_sem,h1]
def sameI (cs:List (Int×Int×Bool))(st:List Int)(cs2:List (Int×Int×Bool))(st2:List Int):Bool:=decide (cs=cs2∧st=st2)
theorem ext_len {α:Type} {l m:List α} (h1:l.length=m.length)(h2:∀ k(h:k<l.length),l[k]=m[k]'(by omega)):l=m:=List.ext_getElem h1 fun i a b=>h2 i a
theorem ne_at {α:Type} {l m:List α} {k:Nat} (h1:k<l.length)(h2:k<m.length)(h:¬ l[k]=m[k]):¬ l=m:=fun e=>by subst e;exact h rfl
theorem rSameI_FS (cs:List (Int×Int×Bool)) (st:List Int) (cs2:List (Int×Int×Bool)) (st2:List Int) (h1:cs.length≤64) (h2:st.length≤64) (h3:cs2.length≤64) (h4:st2.length≤64):Ctr Tryz.prog 29 [.ag (eIns cs st),.ag (eIns cs2 st2)] (.sc (.bool (sameI cs st cs2 st2))):=by
 by_cases hl1:cs.length=cs2.length
 rotate_left
 ·have e:sameI cs st cs2 st2=false:=decide_eq_false fun h=>hl1 (by rw [h.1])
  rw [e]
  refine zqe Tryz.func29 Tryz.ntmps29 fun w0 F0=>?_;dsimp only [St.init,number,Nat.reduceAdd]
  repeat (first|refine W.gob rfl ?_|refine WL.nil ?_|refine WL.nt rfl rfl rfl zqo ?_|refine WL.e1 rfl ?_|refine WL.opno rfl rfl rfl rfl rfl rfl rfl ?_|refine WL.len rfl rfl zql ?_|refine W.condT rfl ?_)
  refine (?_:W _ _ _ _ _)
  exact W.ret zqr
 by_cases hl2:st.length=st2.length
 rotate_left
 ·have e:sameI cs st cs2 st2=false:=decide_eq_false fun h=>hl2 (by rw [h.2])
  rw [e]
  refine zqe Tryz.func29 Tryz.ntmps29 fun w0 F0=>?_;dsimp only [St.init,number,Nat.reduceAdd]
  repeat (first|refine W.gob rfl ?_|refine WL.nil ?_|refine WL.nt rfl rfl rfl zqo ?_|refine WL.nf rfl rfl rfl zqo ?_|refine WL.e1 rfl ?_|refine WL.gyes rfl rfl rfl rfl ?_|refine WL.len rfl rfl zql ?_|refine W.condT rfl ?_)
  refine (?_:W _ _ _ _ _)
  exact W.ret zqr
 refine zqe Tryz.func29 Tryz.ntmps29 fun w0 F0=>?_;dsimp only [St.init,number,Nat.reduceAdd]
 repeat (first|refine W.gob rfl ?_|refine WL.nil ?_|refine WL.nf rfl rfl rfl zqo ?_|refine WL.e1 rfl ?_|refine WL.gyes rfl rfl rfl rfl ?_|refine WL.len rfl rfl zql ?_|refine W.condF rfl ?_)
 refine (?_:W _ _ _ _ _)
 refine W.loop (fun k:Nat=>k≤cs.length∧∀ i (hi:i < k) (h:i < cs.length),cs[i]=cs2[i]' zqo) (fun k=>⟨[(2,.pt 0 0 0),(3,.pt 1 0 0),(5,.sc (.int .i64 k))],[(0,.box 26 (eIns cs st)),(1,.box 26 (eIns cs2 st2))],2⟩) (fun k=>cs.length - k) 0 ⟨by omega,fun i hi=>by omega⟩ (zqt id) fun k hk=>?_
 obtain ⟨hk,hgood⟩:=hk
 by_cases hlt:k < cs.length
 ·have hlt2:k < cs2.length:=by omega
  by_cases he:cs[k]=cs2[k]
  ·repeat (first|refine W.gob rfl ?_|refine WL.nil ?_|refine WL.bt rfl rfl rfl zqo ?_|refine WL.e1 rfl ?_|refine WL.len rfl rfl zql ?_|refine W.condT rfl ?_)
   refine (?_:W _ _ _ _ _)
   refine W.drawK zqk zqk ?_
   repeat (first|refine DK.st rfl ?_|refine DK.idx rfl rfl zqo zqm ?_)
   refine DK.vl rfl (WV.ane rfl rfl rfl rfl rfl zqk (fun w=>eqs_crs _ _ _ _ _ _ w)) ?_
   repeat refine DK.nil ?_
   have hd:decide ((cs[k].1,cs[k].2.1,cs[k].2.2)=(cs2[k].1,cs2[k].2.1,cs2[k].2.2))=true:=decide_eq_true he
   rw [hd]
   repeat (first|refine W.go rfl ?_|refine WL.ev rfl ?_|refine WL.ar rfl rfl (by unfold I64;omega) ?_|refine W.condF rfl ?_)
   exact ⟨k+1,⟨by omega,fun i hi h=>by
    by_cases e:i=k
    ·subst e;exact he
    ·exact hgood i zqo h⟩,by omega,(zqt id)⟩
  ·have e:sameI cs st cs2 st2=false:=decide_eq_false fun h=>ne_at hlt hlt2 he h.1
   rw [e]
   repeat (first|refine W.gob rfl ?_|refine WL.nil ?_|refine WL.bt rfl rfl rfl zqo ?_|refine WL.e1 rfl ?_|refine WL.len rfl rfl zql ?_|refine W.condT rfl ?_)
   refine (?_:W _ _ _ _ _)
   refine W.drawK zqk zqk ?_
   repeat (first|refine DK.st rfl ?_|refine DK.idx rfl rfl zqo zqm ?_)
   refine DK.vl rfl (WV.ane rfl rfl rfl rfl rfl zqk (fun w=>eqs_crs _ _ _ _ _ _ w)) ?_
   repeat refine DK.nil ?_
   have hd:decide ((cs[k].1,cs[k].2.1,cs[k].2.2)=(cs2[k].1,cs2[k].2.1,cs2[k].2.2))=false:=decide_eq_false he
   rw [hd]
   repeat (first|refine W.go rfl ?_|refine W.condT rfl ?_)
   refine (?_:W _ _ _ _ _)
   exact W.ret zqr
 have hcs:cs=cs2:=ext_len hl1 fun q hq=>hgood q zqo hq
 repeat (first|refine W.gob rfl ?_|refine WL.nil ?_|refine WL.bf rfl rfl rfl zqo ?_|refine WL.e1 rfl ?_|refine WL.len rfl rfl zql ?_|refine W.condF rfl ?_)
 refine (?_:W _ _ _ _ _)
 refine W.loop (fun k:Nat=>k≤st.length∧∀ i (hi:i < k) (h:i < st.length),st[i]=st2[i]' zqo) (fun k=>⟨[(2,.pt 0 0 0),(3,.pt 1 0 0),(6,.sc (.int .i64 k))],[(0,.box 26 (eIns cs st)),(1,.box 26 (eIns cs2 st2))],2⟩) (fun k=>st.length - k) 0 ⟨by omega,fun i hi=>by omega⟩ (zqt id) fun k hk=>?_
 obtain ⟨hk,hgood2⟩:=hk
 by_cases hlt:k < st.length
 ·have hlt2:k < st2.length:=by omega
  by_cases he:st[k]=st2[k]
  ·repeat (first|refine W.gob rfl ?_|refine WL.nil ?_|refine WL.bt rfl rfl rfl zqo ?_|refine WL.e1 rfl ?_|refine WL.len rfl rfl zql ?_|refine W.condT rfl ?_)
   refine (?_:W _ _ _ _ _)
   refine W.drawK zqk zqk ?_
   repeat (first|refine DK.st rfl ?_|refine DK.idx rfl rfl zqo zqm ?_|refine DK.nil ?_)
   have hd:decide (st[k]=st2[k])=true:=decide_eq_true he
   rw [hd]
   repeat (first|refine W.go rfl ?_|refine WL.ev rfl ?_|refine WL.ar rfl rfl (by unfold I64;omega) ?_|refine W.condF rfl ?_)
   exact ⟨k+1,⟨by omega,fun i hi h=>by
    by_cases e:i=k
    ·subst e;exact he
    ·exact hgood2 i zqo h⟩,by omega,(zqt id)⟩
  ·have e:sameI cs st cs2 st2=false:=decide_eq_false fun h=>ne_at hlt hlt2 he h.2
   rw [e]
   repeat (first|refine W.gob rfl ?_|refine WL.nil ?_|refine WL.bt rfl rfl rfl zqo ?_|refine WL.e1 rfl ?_|refine WL.len rfl rfl zql ?_|refine W.condT rfl ?_)
   refine (?_:W _ _ _ _ _)
   refine W.drawK zqk zqk ?_
   repeat (first|refine DK.st rfl ?_|refine DK.idx rfl rfl zqo zqm ?_|refine DK.nil ?_)
   have hd:decide (st[k]=st2[k])=false:=decide_eq_false he
   rw [hd]
   repeat (first|refine W.go rfl ?_|refine W.condT rfl ?_)
   refine (?_:W _ _ _ _ _)
   exact W.ret zqr
 have hst:st=st2:=ext_len hl2 fun q hq=>hgood2 q zqo hq
 have e:sameI cs st cs2 st2=true:=decide_eq_true ⟨hcs,hst⟩
 rw [e]
 repeat (first|refine W.gob rfl ?_|refine WL.nil ?_|refine WL.bf rfl rfl rfl zqo ?_|refine WL.e1 rfl ?_|refine WL.len rfl rfl zql ?_|refine W.condF rfl ?_)
 refine (?_:W _ _ _ _ _)
 exact W.ret zqr
theorem pSameI_FS (cs:List (Int×Int×Bool)) (st:List Int) (cs2:List (Int×Int×Bool)) (st2:List Int) (h1:cs.length≤64) (h2:st.length≤64) (h3:cs2.length≤64) (h4:st2.length≤64):Ctr Tryz.prog 81 [.ag (eIns cs st),.ag (eIns cs2 st2)] (.sc (.bool (sameI cs st cs2 st2))):=by
 by_cases hl1:cs.length=cs2.length
 rotate_left
 ·have e:sameI cs st cs2 st2=false:=decide_eq_false fun h=>hl1 (by rw [h.1])
  rw [e]
  refine zqe Tryz.func81 Tryz.ntmps81 fun w0 F0=>?_;dsimp only [St.init,number,Nat.reduceAdd]
  repeat (first|refine W.gob rfl ?_|refine WL.nil ?_|refine WL.nt rfl rfl rfl zqo ?_|refine WL.e1 rfl ?_|refine WL.opno rfl rfl rfl rfl rfl rfl rfl ?_|refine WL.len rfl rfl zql ?_|refine W.condT rfl ?_)
  refine (?_:W _ _ _ _ _)
  exact W.ret zqr
 by_cases hl2:st.length=st2.length
 rotate_left
 ·have e:sameI cs st cs2 st2=false:=decide_eq_false fun h=>hl2 (by rw [h.2])
  rw [e]
  refine zqe Tryz.func81 Tryz.ntmps81 fun w0 F0=>?_;dsimp only [St.init,number,Nat.reduceAdd]
  repeat (first|refine W.gob rfl ?_|refine WL.nil ?_|refine WL.nt rfl rfl rfl zqo ?_|refine WL.nf rfl rfl rfl zqo ?_|refine WL.e1 rfl ?_|refine WL.gyes rfl rfl rfl rfl ?_|refine WL.len rfl rfl zql ?_|refine W.condT rfl ?_)
  refine (?_:W _ _ _ _ _)
  exact W.ret zqr
 refine zqe Tryz.func81 Tryz.ntmps81 fun w0 F0=>?_;dsimp only [St.init,number,Nat.reduceAdd]
 repeat (first|refine W.gob rfl ?_|refine WL.nil ?_|refine WL.nf rfl rfl rfl zqo ?_|refine WL.e1 rfl ?_|refine WL.gyes rfl rfl rfl rfl ?_|refine WL.len rfl rfl zql ?_|refine W.condF rfl ?_)
 refine (?_:W _ _ _ _ _)
 refine W.loop (fun k:Nat=>k≤cs.length∧∀ i (hi:i < k) (h:i < cs.length),cs[i]=cs2[i]' zqo) (fun k=>⟨[(2,.pt 0 0 0),(3,.pt 1 0 0),(25,.sc (.int .i64 cs.length)),(26,.sc (.int .i64 k))],[(0,.box 26 (eIns cs st)),(1,.box 26 (eIns cs2 st2))],2⟩) (fun k=>cs.length - k) 0 ⟨by omega,fun i hi=>by omega⟩ (zqt id) fun k hk=>?_
 obtain ⟨hk,hgood⟩:=hk
 by_cases hlt:k < cs.length
 ·have hlt2:k < cs2.length:=by omega
  by_cases he:cs[k]=cs2[k]
  ·repeat (first|refine W.gob rfl ?_|refine WL.nil ?_|refine WL.bt rfl rfl rfl zqo ?_|refine WL.e1 rfl ?_|refine W.condT rfl ?_)
   refine (?_:W _ _ _ _ _)
   refine W.drawK zqk zqk ?_
   repeat (first|refine DK.st rfl ?_|refine DK.idx rfl rfl zqo zqm ?_)
   refine DK.vl rfl (WV.ane rfl rfl rfl rfl rfl zqk (fun w=>eqs_crs _ _ _ _ _ _ w)) ?_
   repeat refine DK.nil ?_
   have hd:decide ((cs[k].1,cs[k].2.1,cs[k].2.2)=(cs2[k].1,cs2[k].2.1,cs2[k].2.2))=true:=decide_eq_true he
   rw [hd]
   repeat (first|refine W.go rfl ?_|refine WL.ev rfl ?_|refine WL.ar rfl rfl (by unfold I64;omega) ?_|refine W.condF rfl ?_)
   exact ⟨k+1,⟨by omega,fun i hi h=>by
    by_cases e:i=k
    ·subst e;exact he
    ·exact hgood i zqo h⟩,by omega,(zqt id)⟩
  ·have e:sameI cs st cs2 st2=false:=decide_eq_false fun h=>ne_at hlt hlt2 he h.1
   rw [e]
   repeat (first|refine W.gob rfl ?_|refine WL.nil ?_|refine WL.bt rfl rfl rfl zqo ?_|refine WL.e1 rfl ?_|refine W.condT rfl ?_)
   refine (?_:W _ _ _ _ _)
   refine W.drawK zqk zqk ?_
   repeat (first|refine DK.st rfl ?_|refine DK.idx rfl rfl zqo zqm ?_)
   refine DK.vl rfl (WV.ane rfl rfl rfl rfl rfl zqk (fun w=>eqs_crs _ _ _ _ _ _ w)) ?_
   repeat refine DK.nil ?_
   have hd:decide ((cs[k].1,cs[k].2.1,cs[k].2.2)=(cs2[k].1,cs2[k].2.1,cs2[k].2.2))=false:=decide_eq_false he
   rw [hd]
   repeat (first|refine W.go rfl ?_|refine W.condT rfl ?_)
   refine (?_:W _ _ _ _ _)
   exact W.ret zqr
 have hcs:cs=cs2:=ext_len hl1 fun q hq=>hgood q zqo hq
 repeat (first|refine W.gob rfl ?_|refine WL.nil ?_|refine WL.bf rfl rfl rfl zqo ?_|refine WL.e1 rfl ?_|refine WL.len rfl rfl zql ?_|refine W.condF rfl ?_)
 refine (?_:W _ _ _ _ _)
 refine W.loop (fun k:Nat=>k≤st.length∧∀ i (hi:i < k) (h:i < st.length),st[i]=st2[i]' zqo) (fun k=>⟨[(2,.pt 0 0 0),(3,.pt 1 0 0),(43,.sc (.int .i64 st.length)),(44,.sc (.int .i64 k))],[(0,.box 26 (eIns cs st)),(1,.box 26 (eIns cs2 st2))],2⟩) (fun k=>st.length - k) 0 ⟨by omega,fun i hi=>by omega⟩ (zqt id) fun k hk=>?_
 obtain ⟨hk,hgood2⟩:=hk
 by_cases hlt:k < st.length
 ·have hlt2:k < st2.length:=by omega
  by_cases he:st[k]=st2[k]
  ·repeat (first|refine W.gob rfl ?_|refine WL.nil ?_|refine WL.bt rfl rfl rfl zqo ?_|refine WL.e1 rfl ?_|refine W.condT rfl ?_)
   refine (?_:W _ _ _ _ _)
   refine W.drawK zqk zqk ?_
   repeat (first|refine DK.st rfl ?_|refine DK.idx rfl rfl zqo zqm ?_|refine DK.nil ?_)
   have hd:decide (st[k]=st2[k])=true:=decide_eq_true he
   rw [hd]
   repeat (first|refine W.go rfl ?_|refine WL.ev rfl ?_|refine WL.ar rfl rfl (by unfold I64;omega) ?_|refine W.condF rfl ?_)
   exact ⟨k+1,⟨by omega,fun i hi h=>by
    by_cases e:i=k
    ·subst e;exact he
    ·exact hgood2 i zqo h⟩,by omega,(zqt id)⟩
  ·have e:sameI cs st cs2 st2=false:=decide_eq_false fun h=>ne_at hlt hlt2 he h.2
   rw [e]
   repeat (first|refine W.gob rfl ?_|refine WL.nil ?_|refine WL.bt rfl rfl rfl zqo ?_|refine WL.e1 rfl ?_|refine W.condT rfl ?_)
   refine (?_:W _ _ _ _ _)
   refine W.drawK zqk zqk ?_
   repeat (first|refine DK.st rfl ?_|refine DK.idx rfl rfl zqo zqm ?_|refine DK.nil ?_)
   have hd:decide (st[k]=st2[k])=false:=decide_eq_false he
   rw [hd]
   repeat (first|refine W.go rfl ?_|refine W.condT rfl ?_)
   refine (?_:W _ _ _ _ _)
   exact W.ret zqr
 have hst:st=st2:=ext_len hl2 fun q hq=>hgood2 q zqo hq
 have e:sameI cs st cs2 st2=true:=decide_eq_true ⟨hcs,hst⟩
 rw [e]
 repeat (first|refine W.gob rfl ?_|refine WL.nil ?_|refine WL.bf rfl rfl rfl zqo ?_|refine WL.e1 rfl ?_|refine W.condF rfl ?_)
 refine (?_:W _ _ _ _ _)
 exact W.ret zqr
end Go.Proofs.YtaeelcfjkhfpkaaGreat
