/- Whether two instruments are the same: program and reference. -/
import Derived.Test.YthehkchjdkdbiaaGreatDoorK2Kq
import Derived.Test.YthehkchjdkdbiaaGreatDoorGRKq
set_option maxHeartbeats 8000000
set_option maxRecDepth 100000
set_option linter.unusedVariables false
set_option linter.unusedSimpArgs false
namespace Go.Proofs.YthehkchjdkdbiaaGreatDoor
open Go.RowKit
theorem ajX {p:Prop}(h:p:=by
 exact ⟨k+1,⟨by omega,fun i hi h=>by
  by_cases e:i=k
  ·subst e;exact he
  ·exact hgood i au h⟩,by omega,(zqt id)⟩):p:=h
theorem ajW {p:Prop}(h:p:=by
 exact ⟨k+1,⟨by omega,fun i hi h=>by
  by_cases e:i=k
  ·subst e;exact he
  ·exact Rj i au h⟩,by omega,(zqt id)⟩):p:=h
theorem ajV {p:Prop}(h:p:=by
 rw [e]
 refine jl Tryz.func60 Tryz.ntmps60 fun w0 F0=>?_;dsimp only [St.init,number,Nat.reduceAdd]
 refine Ii ?_
 exact W.ret vS):p:=h
theorem arF {p:Prop}(h:p:=by
 rw [e]
 refine jl Tryz.func48 Tryz.ntmps48 fun w0 F0=>?_;dsimp only [St.init,number,Nat.reduceAdd]
 refine Ih ?_
 exact W.ret vS):p:=h
theorem IU (x y:Int) (b:Bool) (x2 y2:Int) (b2:Bool) (w:World):(Op.equalIn 10000 117 (.agg #[.int .i64 x,.int .i64 y,.bool b]) (.agg #[.int .i64 x2,.int .i64 y2,.bool b2])).run Tryz.prog w=.ok (decide ((x,y,b)=(x2,y2,b2))) w:=by
 rw [run_equalIn_agg w 9999 _ _ _ bD bD]
 refine Eq.trans (congrArg (fun fs=>Sem.run _ (Op.eqFields 9999 _ _ fs) w) (rfl:(Tryz.prog.fieldsOf 117).toList=[_,_,_])) ?_
 by_cases h1:x=x2
 ·subst h1
  by_cases h2:y=y2
  ·subst h2
   cases b<;>cases b2<;>simp [go_sem]
  ·simp [go_sem,h2]
 ·simp [go_sem,h1]
def tV (cs:List (Int×Int×Bool))(st:List Int)(cs2:List (Int×Int×Bool))(st2:List Int):Bool:=decide (cs=cs2∧st=st2)
theorem IV {α:Type} {l m:List α} (h1:l.length=m.length)(h2:∀ k(h:k<l.length),l[k]=m[k]'(by omega)):l=m:=fZ h1 fun i a b=>h2 i a
theorem abQ {α:Type} {l m:List α} {k:Nat} (h1:k<l.length)(h2:k<m.length)(h:¬ l[k]=m[k]):¬ l=m:=fun e=>by subst e;exact h rfl
theorem auG (cs:List (Int×Int×Bool)) (st:List Int) (cs2:List (Int×Int×Bool)) (st2:List Int) (h1:cs.length≤64) (h2:st.length≤64) (h3:cs2.length≤64) (h4:st2.length≤64):aU Tryz.prog 48 [.ag (mX cs st),.ag (mX cs2 st2)] (.sc (.bool (tV cs st cs2 st2))):=by
 by_cases hl1:cs.length=cs2.length
 rotate_left
 ·have e:tV cs st cs2 st2=false:=cZ fun h=>hl1 (by rw [h.1])
  exact arF
 by_cases hl2:st.length=st2.length
 rotate_left
 ·have e:tV cs st cs2 st2=false:=cZ fun h=>hl2 (by rw [h.2])
  exact arF
 refine jl Tryz.func48 Tryz.ntmps48 fun w0 F0=>?_;dsimp only [St.init,number,Nat.reduceAdd]
 refine Ih ?_
 refine W.loop (fun k:Nat=>k≤cs.length∧∀ i (hi:i < k) (h:i < cs.length),cs[i]=cs2[i]' au) (fun k=>⟨[(2,.pt 0 0 0),(3,.pt 1 0 0),(5,.sc (.int .i64 k))],[(0,.box 27 (mX cs st)),(1,.box 27 (mX cs2 st2))],2⟩) (fun k=>cs.length - k) 0 ⟨by omega,fun i hi=>by omega⟩ (zqt id) fun k hk=>?_
 obtain ⟨hk,hgood⟩:=hk
 by_cases hlt:k < cs.length
 ·have hlt2:k < cs2.length:=by omega
  by_cases he:cs[k]=cs2[k]
  ·refine Ih ?_
   refine iF ?_
   refine Qn ?_
   refine DK.vl rfl (WV.ane rfl rfl rfl rfl rfl bD (fun w=>IU _ _ _ _ _ _ w)) ?_
   refine Qn ?_
   have hd:decide ((cs[k].1,cs[k].2.1,cs[k].2.2)=(cs2[k].1,cs2[k].2.1,cs2[k].2.2))=true:=dG he
   rw [hd]
   refine acR ?_
   exact ajX
  ·have e:tV cs st cs2 st2=false:=cZ fun h=>abQ hlt hlt2 he h.1
   rw [e]
   refine Ih ?_
   refine iF ?_
   refine Qn ?_
   refine DK.vl rfl (WV.ane rfl rfl rfl rfl rfl bD (fun w=>IU _ _ _ _ _ _ w)) ?_
   refine Qn ?_
   have hd:decide ((cs[k].1,cs[k].2.1,cs[k].2.2)=(cs2[k].1,cs2[k].2.1,cs2[k].2.2))=false:=cZ he
   rw [hd]
   refine acR ?_
   exact W.ret vS
 have hcs:cs=cs2:=IV hl1 fun q hq=>hgood q au hq
 refine Ih ?_
 refine W.loop (fun k:Nat=>k≤st.length∧∀ i (hi:i < k) (h:i < st.length),st[i]=st2[i]' au) (fun k=>⟨[(2,.pt 0 0 0),(3,.pt 1 0 0),(6,.sc (.int .i64 k))],[(0,.box 27 (mX cs st)),(1,.box 27 (mX cs2 st2))],2⟩) (fun k=>st.length - k) 0 ⟨by omega,fun i hi=>by omega⟩ (zqt id) fun k hk=>?_
 obtain ⟨hk,Rj⟩:=hk
 by_cases hlt:k < st.length
 ·have hlt2:k < st2.length:=by omega
  by_cases he:st[k]=st2[k]
  ·refine Ih ?_
   refine iF ?_
   refine Qn ?_
   have hd:decide (st[k]=st2[k])=true:=dG he
   rw [hd]
   refine acR ?_
   exact ajW
  ·have e:tV cs st cs2 st2=false:=cZ fun h=>abQ hlt hlt2 he h.2
   rw [e]
   refine Ih ?_
   refine iF ?_
   refine Qn ?_
   have hd:decide (st[k]=st2[k])=false:=cZ he
   rw [hd]
   refine acR ?_
   exact W.ret vS
 have hst:st=st2:=IV hl2 fun q hq=>Rj q au hq
 have e:tV cs st cs2 st2=true:=dG ⟨hcs,hst⟩
 rw [e]
 refine Ih ?_
 exact W.ret vS
theorem PK (cs:List (Int×Int×Bool)) (st:List Int) (cs2:List (Int×Int×Bool)) (st2:List Int) (h1:cs.length≤64) (h2:st.length≤64) (h3:cs2.length≤64) (h4:st2.length≤64):aU Tryz.prog 60 [.ag (mX cs st),.ag (mX cs2 st2)] (.sc (.bool (tV cs st cs2 st2))):=by
 by_cases hl1:cs.length=cs2.length
 rotate_left
 ·have e:tV cs st cs2 st2=false:=cZ fun h=>hl1 (by rw [h.1])
  exact ajV
 by_cases hl2:st.length=st2.length
 rotate_left
 ·have e:tV cs st cs2 st2=false:=cZ fun h=>hl2 (by rw [h.2])
  exact ajV
 refine jl Tryz.func60 Tryz.ntmps60 fun w0 F0=>?_;dsimp only [St.init,number,Nat.reduceAdd]
 refine Ii ?_
 refine W.loop (fun k:Nat=>k≤cs.length∧∀ i (hi:i < k) (h:i < cs.length),cs[i]=cs2[i]' au) (fun k=>⟨[(2,.pt 0 0 0),(3,.pt 1 0 0),(25,.sc (.int .i64 cs.length)),(26,.sc (.int .i64 k))],[(0,.box 27 (mX cs st)),(1,.box 27 (mX cs2 st2))],2⟩) (fun k=>cs.length - k) 0 ⟨by omega,fun i hi=>by omega⟩ (zqt id) fun k hk=>?_
 obtain ⟨hk,hgood⟩:=hk
 by_cases hlt:k < cs.length
 ·have hlt2:k < cs2.length:=by omega
  by_cases he:cs[k]=cs2[k]
  ·refine Ii ?_
   refine iF ?_
   refine Np ?_
   refine DK.vl rfl (WV.ane rfl rfl rfl rfl rfl bD (fun w=>IU _ _ _ _ _ _ w)) ?_
   refine Np ?_
   have hd:decide ((cs[k].1,cs[k].2.1,cs[k].2.2)=(cs2[k].1,cs2[k].2.1,cs2[k].2.2))=true:=dG he
   rw [hd]
   refine acS ?_
   exact ajX
  ·have e:tV cs st cs2 st2=false:=cZ fun h=>abQ hlt hlt2 he h.1
   rw [e]
   refine Ii ?_
   refine iF ?_
   refine Np ?_
   refine DK.vl rfl (WV.ane rfl rfl rfl rfl rfl bD (fun w=>IU _ _ _ _ _ _ w)) ?_
   refine Np ?_
   have hd:decide ((cs[k].1,cs[k].2.1,cs[k].2.2)=(cs2[k].1,cs2[k].2.1,cs2[k].2.2))=false:=cZ he
   rw [hd]
   refine acS ?_
   exact W.ret vS
 have hcs:cs=cs2:=IV hl1 fun q hq=>hgood q au hq
 refine Ii ?_
 refine W.loop (fun k:Nat=>k≤st.length∧∀ i (hi:i < k) (h:i < st.length),st[i]=st2[i]' au) (fun k=>⟨[(2,.pt 0 0 0),(3,.pt 1 0 0),(43,.sc (.int .i64 st.length)),(44,.sc (.int .i64 k))],[(0,.box 27 (mX cs st)),(1,.box 27 (mX cs2 st2))],2⟩) (fun k=>st.length - k) 0 ⟨by omega,fun i hi=>by omega⟩ (zqt id) fun k hk=>?_
 obtain ⟨hk,Rj⟩:=hk
 by_cases hlt:k < st.length
 ·have hlt2:k < st2.length:=by omega
  by_cases he:st[k]=st2[k]
  ·refine Ii ?_
   refine iF ?_
   refine Np ?_
   have hd:decide (st[k]=st2[k])=true:=dG he
   rw [hd]
   refine acS ?_
   exact ajW
  ·have e:tV cs st cs2 st2=false:=cZ fun h=>abQ hlt hlt2 he h.2
   rw [e]
   refine Ii ?_
   refine iF ?_
   refine Np ?_
   have hd:decide (st[k]=st2[k])=false:=cZ he
   rw [hd]
   refine acS ?_
   exact W.ret vS
 have hst:st=st2:=IV hl2 fun q hq=>Rj q au hq
 have e:tV cs st cs2 st2=true:=dG ⟨hcs,hst⟩
 rw [e]
 refine Ii ?_
 exact W.ret vS
end Go.Proofs.YthehkchjdkdbiaaGreatDoor
