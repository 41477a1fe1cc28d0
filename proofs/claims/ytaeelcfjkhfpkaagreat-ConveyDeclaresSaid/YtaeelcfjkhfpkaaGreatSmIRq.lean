/- Whether two instruments are the same: program and reference. -/
import Derived.Test.YtaeelcfjkhfpkaaGreatYPRq
import Derived.Test.YtaeelcfjkhfpkaaGreatGBRq
set_option maxHeartbeats 8000000
set_option maxRecDepth 100000
set_option linter.unusedVariables false
set_option linter.unusedSimpArgs false
namespace Go.Proofs.YtaeelcfjkhfpkaaGreat
section
open Go.RowKit
def eKp (x:Stp×Bool):List AV:=[.sc (.int .i64 x.1.1),.sc (.int .i64 x.1.2.1),.sc (.int .i64 x.1.2.2.1),.sc (.int .i64 x.1.2.2.2.1),.sc (.int .i64 x.1.2.2.2.2),.sc (.bool x.2)]
def eRs (y:Stp)(c h:Int)(ml:List Int):List AV:=[.sc (.int .i64 y.1),.sc (.int .i64 y.2.1),.sc (.int .i64 y.2.2.1),.sc (.int .i64 y.2.2.2.1),.sc (.int .i64 y.2.2.2.2),.sc (.int .i64 c),.sc (.int .i64 h),.ls 1 (ml.map eInt)]
abbrev Nte:=Stp×Int×Int×List Int
def eNt(r:Nte):List AV:=eRs r.1 r.2.1 r.2.2.1 r.2.2.2
def eBl (b:Bool):List AV:=[.sc (.bool b)]
def oc1 (C:Cg)(x:Stp):Nte:=if (C.ch x).2=true then ((C.ch x).1,x.1,x.2.2.2.2,[])else (C.mr (C.ch x).1,x.1,x.2.2.2.2,C.ml (C.ch x).1)
def ocN (C:Cg)(l:List Stp):List Nte:=l.map (oc1 C)
def ocG(C:Cg)(l:List Stp):List Bool:=l.map fun x=>(C.ch x).2
def eOc (lost:Int)(ns:List Nte)(gs:List Bool):List AV:=[.sc (.int .i64 lost),.ls 8 (ns.map eNt),.ls 1 (gs.map eBl)]
def eEvS (e:Ev)(k:Nat):List AV:=[.sc (.bool e.bar),.sc (.int .i64 e.val),.sc (.bool e.dot),.sc (.bool e.three),.sc (.bool e.tie),.sl k]
theorem ocN_len(C:Cg)(l:List Stp):(ocN C l).length=l.length:=List.length_map _
theorem ocG_len(C:Cg)(l:List Stp):(ocG C l).length=l.length:=List.length_map _
theorem nw_rows (C:Cg) {l:List Stp} {k:Nat} (h:k<l.length):(nwS C (l.take k)).map eStp++(if (C.ch l[k]).2=true then []else [eStp (C.mr (C.ch l[k]).1)])=(nwS C (l.take (k+1))).map eStp:=by
 rw [nwS_snoc h,List.map_append]
 congr 1
 unfold Cg.mv
 cases (C.ch l[k]).2<;>rfl
theorem ocN_rows (C:Cg) {l:List Stp} {k:Nat} (h:k<l.length):(ocN C (l.take k)).map eNt++[eNt (if (C.ch l[k]).2=true then ((C.ch l[k]).1,l[k].1,l[k].2.2.2.2,[])else (C.mr (C.ch l[k]).1,l[k].1,l[k].2.2.2.2,C.ml (C.ch l[k]).1))]=(ocN C (l.take (k+1))).map eNt:=by
 unfold ocN
 rw [List.take_succ_eq_append_getElem h,List.map_append,List.map_append];rfl
theorem ocG_rows (C:Cg) {l:List Stp} {k:Nat} (h:k<l.length):(ocG C (l.take k)).map eBl++[eBl (C.ch l[k]).2]=(ocG C (l.take (k+1))).map eBl:=by
 unfold ocG
 rw [List.take_succ_eq_append_getElem h,List.map_append,List.map_append];rfl
end
section
open Go.RowKit
theorem yCel_FS (s:Int)(hs:1≤s∧s≤4)(x:Stp)(L:Int)(hc:1≤x.1∧x.1≤14)(hf:0≤x.2.1∧x.2.1≤18)(hr:0≤x.2.2.1∧x.2.2.1≤3)(hg:0≤x.2.2.2.1∧x.2.2.2.1≤4)(hh:0≤x.2.2.2.2∧x.2.2.2.2≤15) :
  Ctr Tryz.prog 105 [.sc (sysV s),.ag (eStp x),.sc (.int .i64 L)] (.tu [.sc (.string (bs (cellS s x.1 x.2.1 x.2.2.1 x.2.2.2.1 x.2.2.2.2 L))),.sc (.bool (cellOk s x.1 x.2.1 x.2.2.1 x.2.2.2.1 x.2.2.2.2 L))]):=by
 rcases sys_cases hs with rfl|rfl|rfl|rfl
 ·exact Ctr.of_pl rfl (fun _=>rp_tu2) fun w=>pcell_1 _ _ _ _ _ _ w hc hf hr hg hh
 ·exact Ctr.of_pl rfl (fun _=>rp_tu2) fun w=>pcell_2 _ _ _ _ _ _ w hc hf hr hg hh
 ·exact Ctr.of_pl rfl (fun _=>rp_tu2) fun w=>pcell_3 _ _ _ _ _ _ w hc hf hr hg hh
 ·exact Ctr.of_pl rfl (fun _=>rp_tu2) fun w=>pcell_4 _ _ _ _ _ _ w hc hf hr hg hh
theorem yLong_FS (p:Pce) (hO:PcOk p) (i x:Int):Ctr Tryz.prog 107 [ePce p,.sc (.int .i64 i),.sc (.int .i64 x)] (.sc (.int .i64 (longestN p.evs i x))) :=
 Ctr.of_pc (pre:=[]) (post:=[.sc (.int .i64 i),.sc (.int .i64 x)]) rfl rfl (fun _=>.sc _) fun w M hM=>pLongest_any M p i x w hM hO
theorem placed_FS (s c f:Int) (hs:1≤s∧s≤4) (hc:1≤c∧c≤14) (hf:0≤f∧f≤18):Ctr Tryz.prog 104 [.sc (.int .u8 s),.sc (.int .i64 c),.sc (.int .i64 f)] (.tu [.sc (sysV s),.sc (.int .i64 0)]):=by
 have hO:=of_FS s
 rw [decide_eq_true hs] at hO
 refine zqe Tryz.func104 Tryz.ntmps104 fun w0 F0=>?_;dsimp only [St.init,number,Nat.reduceAdd]
 repeat refine W.go rfl ?_
 refine (?_:WL _ _ _ _ _ _)
 refine WL.vl rfl (zqc Tryz.func92 hO) ?_
 repeat (first|refine W.gob rfl ?_|refine WL.nil ?_|refine WL.bf rfl rfl rfl zqo ?_|refine WL.e1 rfl ?_|refine WL.gyes rfl rfl rfl rfl ?_|refine W.condF rfl ?_)
 refine (?_:W _ _ _ _ _)
 exact W.ret (finN rfl rfl rfl rfl)
theorem ySym_FS (s c f:Int) (hs:1≤s∧s≤4) (hc:1≤c∧c≤14) (hf:0≤f∧f≤18):Ctr Tryz.prog 52 [.sc (.int .u8 s),.ag [.sc (.int .i64 c),.sc (.int .i64 f)]]
  (.tu [.sc (.string (bs (if pOk s c f=true then pS s c f else []))),.sc (.int .i64 (if pOk s c f=true then 0 else 31))]):=by
 have hP:=placed_FS s c f hs hc hf
 have hS:=symb_FS s hs c f hc hf
 cases hp:pOk s c f with
 | true =>
  rw [hp] at hS
  rw [if_pos rfl,if_pos rfl]
  refine zqe Tryz.func52 Tryz.ntmps52 fun w0 F0=>?_;dsimp only [St.init,number,Nat.reduceAdd]
  repeat refine W.go rfl ?_
  refine (?_:WL _ _ _ _ _ _)
  refine WL.vl rfl (zqc Tryz.func104 hP) ?_
  repeat (first|refine W.gob rfl ?_|refine WL.nil ?_|refine WL.nf rfl rfl rfl zqo ?_|refine WL.e1 rfl ?_|refine W.condF rfl ?_)
  refine (?_:WL _ _ _ _ _ _)
  refine WL.vl rfl (WV.sys hs symbolF rfl rfl (fun vs w=>by kernel_rfl) (fun vs w=>by kernel_rfl) (fun vs w=>by kernel_rfl) (fun vs w=>by kernel_rfl) rfl rfl hS) ?_
  repeat (first|refine W.gob rfl ?_|refine WL.nil ?_|refine WL.e1 rfl ?_|refine W.condF rfl ?_)
  refine (?_:W _ _ _ _ _)
  exact W.ret (finN rfl rfl rfl rfl)
 | false =>
  rw [hp] at hS
  rw [if_neg (by simp),if_neg (by simp)]
  refine zqe Tryz.func52 Tryz.ntmps52 fun w0 F0=>?_;dsimp only [St.init,number,Nat.reduceAdd]
  repeat refine W.go rfl ?_
  refine (?_:WL _ _ _ _ _ _)
  refine WL.vl rfl (zqc Tryz.func104 hP) ?_
  repeat (first|refine W.gob rfl ?_|refine WL.nil ?_|refine WL.nf rfl rfl rfl zqo ?_|refine WL.e1 rfl ?_|refine W.condF rfl ?_)
  refine (?_:WL _ _ _ _ _ _)
  refine WL.vl rfl (WV.sys hs symbolF rfl rfl (fun vs w=>by kernel_rfl) (fun vs w=>by kernel_rfl) (fun vs w=>by kernel_rfl) (fun vs w=>by kernel_rfl) rfl rfl hS) ?_
  repeat (first|refine W.gob rfl ?_|refine WL.nil ?_|refine WL.e1 rfl ?_|refine W.condT rfl ?_)
  refine (?_:W _ _ _ _ _)
  exact W.ret (finN rfl rfl rfl rfl)
theorem yCell_FS (s:Int) (hs:1≤s∧s≤4) (c f r g:Int) (hc:1≤c∧c≤14) (hf:0≤f∧f≤18) (hr:0≤r∧r≤3) (hg:0≤g∧g≤4) :
  Ctr Tryz.prog 55 [.sc (.int .u8 s),.ag [.sc (.int .i64 c),.sc (.int .i64 f),.sc (.int .i64 r),.sc (.int .i64 g),.sc (.int .i64 0)],.sc (.int .i64 0)]
  (.tu [.sc (.string (bs (if cellOk s c f r g 0 0=true then cellS s c f r g 0 0 else []))),.sc (.int .i64 (if cellOk s c f r g 0 0=true then 0 else 31))]):=by
 have hP:=placed_FS s c f hs hc hf
 have hS:Ctr Tryz.prog 105 [.sc (sysV s),.ag [.sc (.int .i64 c),.sc (.int .i64 f),.sc (.int .i64 r),.sc (.int .i64 g),.sc (.int .i64 0)],.sc (.int .i64 0)] (.tu [.sc (.string (bs (cellS s c f r g 0 0))),.sc (.bool (cellOk s c f r g 0 0))]):=yCel_FS s hs (c,f,r,g,0) 0 hc hf hr hg ⟨by show (0:Int)≤0;decide,by show (0:Int)≤15;decide⟩
 cases hp:cellOk s c f r g 0 0 with
 | true =>
  rw [hp] at hS
  rw [if_pos rfl,if_pos rfl]
  refine zqe Tryz.func55 Tryz.ntmps55 fun w0 F0=>?_;dsimp only [St.init,number,Nat.reduceAdd]
  repeat refine W.go rfl ?_
  refine (?_:WL _ _ _ _ _ _)
  refine WL.vl rfl (zqc Tryz.func104 hP) ?_
  repeat (first|refine W.gob rfl ?_|refine WL.nil ?_|refine WL.bf rfl rfl rfl zqo ?_|refine WL.nf rfl rfl rfl zqo ?_|refine WL.e1 rfl ?_|refine WL.gyes rfl rfl rfl rfl ?_|refine WL.opno rfl rfl rfl rfl rfl rfl rfl ?_|refine W.condF rfl ?_)
  refine (?_:WL _ _ _ _ _ _)
  refine WL.vl rfl (zqc Tryz.func105 hS) ?_
  repeat (first|refine W.gob rfl ?_|refine WL.nil ?_|refine WL.e1 rfl ?_|refine W.condF rfl ?_)
  refine (?_:W _ _ _ _ _)
  exact W.ret (finN rfl rfl rfl rfl)
 | false =>
  rw [hp] at hS
  rw [if_neg (by simp),if_neg (by simp)]
  refine zqe Tryz.func55 Tryz.ntmps55 fun w0 F0=>?_;dsimp only [St.init,number,Nat.reduceAdd]
  repeat refine W.go rfl ?_
  refine (?_:WL _ _ _ _ _ _)
  refine WL.vl rfl (zqc Tryz.func104 hP) ?_
  repeat (first|refine W.gob rfl ?_|refine WL.nil ?_|refine WL.bf rfl rfl rfl zqo ?_|refine WL.nf rfl rfl rfl zqo ?_|refine WL.e1 rfl ?_|refine WL.gyes rfl rfl rfl rfl ?_|refine WL.opno rfl rfl rfl rfl rfl rfl rfl ?_|refine W.condF rfl ?_)
  refine (?_:WL _ _ _ _ _ _)
  refine WL.vl rfl (zqc Tryz.func105 hS) ?_
  repeat (first|refine W.gob rfl ?_|refine WL.nil ?_|refine WL.e1 rfl ?_|refine W.condT rfl ?_)
  refine (?_:W _ _ _ _ _)
  exact W.ret (finN rfl rfl rfl rfl)
end
section
open Go.RowKit
theorem run_equalIn_fn {P:Program} (w:World)(d:Nat)(t:TypeId) {a b c} (f:Fn)(fs cs:Array Value)(h:P.underlying t=some (.func a b c)):(Op.equalIn (d+1) t (.func f fs cs) .nilFunc).run P w=.ok false w:=by
 simp [Op.equalIn,run_underlying h]
theorem run_equalIn_nn {P:Program} (w:World)(d:Nat)(t:TypeId) {a b c} (h:P.underlying t=some (.func a b c)):(Op.equalIn (d+1) t .nilFunc .nilFunc).run P w=.ok true w:=by
 simp [Op.equalIn,run_underlying h]
theorem run_neq_fn {P:Program} (w:World)(t:TypeId) {a b c} (f:Fn)(fs cs:Array Value)(h:P.underlying t=some (.func a b c)):(binOp .neq t (.func f fs cs) .nilFunc).run P w=.ok (.bool true) w:=by
 simp only [binOp]
 simp [Op.equal,Op.maxDepth,run_equalIn_fn w 9999 t f fs cs h]
theorem run_neq_nn {P:Program} (w:World)(t:TypeId) {a b c} (h:P.underlying t=some (.func a b c)):(binOp .neq t .nilFunc .nilFunc).run P w=.ok (.bool false) w:=by
 simp only [binOp]
 simp [Op.equal,Op.maxDepth,run_equalIn_nn w 9999 t h]
section
variable {P:Program} {C:Cx} {σ:St} {o:Oper}
def fnqV (P:Program)(σ:St):Op→Option Bool
 | .binOp .neq T x y _ =>
  match P.underlying T,σ.ev x,σ.ev y with
  | some (.func _ _ _),some (.fn _ _),some (.sc .nilFunc)=>some true
  | some (.func _ _ _),some (.sc .nilFunc),some (.sc .nilFunc)=>some false
  | _,_,_=>none
 | _=>none
theorem fnqV_of {b:Bool} (h:fnqV P σ o.op=some b):WV P C o σ (.sc (.bool b)):=by
 unfold fnqV at h
 split at h
 ·rename_i T x y Ty ho
  split at h
  ·rename_i a1 a2 a3 f caps hT hx hy
   cases h
   refine WV.val (fun G a w ok=>.sc _) fun G a w ok=>?_
   obtain⟨cs,e1,_,_⟩:=(ok.evr hx).2.fn_of
   have e2:=ok.evs hy
   have hrun:=run_neq_fn (P:=P) w T (.func f) #[] cs hT
   refine⟨.bool true,?_,.pu _ _ (.sc _)⟩
   unfold execOp
   simp only [ho,e1,e2,eqGuard,Sem.run_bind,Sem.run_pure,Result.andThen_ok,hrun]
   simp only [Bool.not_true,Bool.false_eq_true,if_false,Sem.run_bind,Sem.run_pure,Result.andThen_ok,hrun]
  ·rename_i a1 a2 a3 hT hx hy
   cases h
   refine WV.val (fun G a w ok=>.sc _) fun G a w ok=>?_
   have e1:=ok.evs hx
   have e2:=ok.evs hy
   have hrun:=run_neq_nn (P:=P) w T hT
   refine⟨.bool false,?_,.pu _ _ (.sc _)⟩
   unfold execOp
   simp only [ho,e1,e2,eqGuard,Sem.run_bind,Sem.run_pure,Result.andThen_ok,hrun]
   simp only [Bool.not_true,Bool.false_eq_true,if_false,Sem.run_bind,Sem.run_pure,Result.andThen_ok,hrun]
  ·cases h
 ·cases h
end
end
section
open Go.RowKit
theorem eqs_crs (x y:Int) (b:Bool) (x2 y2:Int) (b2:Bool) (w:World):(Op.equalIn 10000 70 (.agg #[.int .i64 x,.int .i64 y,.bool b]) (.agg #[.int .i64 x2,.int .i64 y2,.bool b2])).run Tryz.prog w=.ok (decide ((x,y,b)=(x2,y2,b2))) w:=by
 rw [run_equalIn_agg w 9999 _ _ _ zqk zqk]
 refine Eq.trans (congrArg (fun fs=>Sem.run _ (Op.eqFields 9999 _ _ fs) w) (rfl:(Tryz.prog.fieldsOf 70).toList=[_,_,_])) ?_
 by_cases h1:x=x2
 ·subst h1
  by_cases h2:y=y2
  ·subst h2
   cases b<;>cases b2<;>simp [go_sem]
  ·simp [go_sem,h2]
 ·simp [go_sem,h1]
def sameI (cs:List (Int×Int×Bool))(st:List Int)(cs2:List (Int×Int×Bool))(st2:List Int):Bool:=decide (cs=cs2∧st=st2)
theorem ext_len {α:Type} {l m:List α} (h1:l.length=m.length)(h2:∀ k(h:k<l.length),l[k]=m[k]'(by omega)):l=m:=List.ext_getElem h1 fun i a b=>h2 i a
theorem ne_at {α:Type} {l m:List α} {k:Nat} (h1:k<l.length)(h2:k<m.length)(h:¬ l[k]=m[k]):¬ l=m:=fun e=>by subst e;exact h rfl
theorem rSameI_FS (cs:List (Int×Int×Bool)) (st:List Int) (cs2:List (Int×Int×Bool)) (st2:List Int) (h1:cs.length≤64) (h2:st.length≤64) (h3:cs2.length≤64) (h4:st2.length≤64):Ctr Tryz.prog 29 [.ag (eIns cs st),.ag (eIns cs2 st2)] (.sc (.bool (sameI cs st cs2 st2))):=by
 by_cases hl1:cs.length=cs2.length
 rotate_left
 ·have e:sameI cs st cs2 st2=false:=decide_eq_false fun h=>hl1 (by rw [h.1])
  rw [e]
  refine zqe Tryz.func29 Tryz.ntmps29 fun w0 F0=>?_;dsimp only [St.init,number,Nat.reduceAdd]
  repeat (first|refine W.gob rfl ?_|refine WL.nil ?_|refine WL.nt rfl rfl rfl zqo ?_|refine WL.e1 rfl ?_|refine WL.opno rfl rfl rfl rfl rfl rfl rfl ?_|refine WL.len rfl rfl zql ?_|refine W.condT rfl ?_)
  refine (?_:W _ _ _ _ _)
  exact W.ret zqr
 by_cases hl2:st.length=st2.length
 rotate_left
 ·have e:sameI cs st cs2 st2=false:=decide_eq_false fun h=>hl2 (by rw [h.2])
  rw [e]
  refine zqe Tryz.func29 Tryz.ntmps29 fun w0 F0=>?_;dsimp only [St.init,number,Nat.reduceAdd]
  repeat (first|refine W.gob rfl ?_|refine WL.nil ?_|refine WL.nt rfl rfl rfl zqo ?_|refine WL.nf rfl rfl rfl zqo ?_|refine WL.e1 rfl ?_|refine WL.gyes rfl rfl rfl rfl ?_|refine WL.len rfl rfl zql ?_|refine W.condT rfl ?_)
  refine (?_:W _ _ _ _ _)
  exact W.ret zqr
 refine zqe Tryz.func29 Tryz.ntmps29 fun w0 F0=>?_;dsimp only [St.init,number,Nat.reduceAdd]
 repeat (first|refine W.gob rfl ?_|refine WL.nil ?_|refine WL.nf rfl rfl rfl zqo ?_|refine WL.e1 rfl ?_|refine WL.gyes rfl rfl rfl rfl ?_|refine WL.len rfl rfl zql ?_|refine W.condF rfl ?_)
 refine (?_:W _ _ _ _ _)
 refine W.loop (fun k:Nat=>k≤cs.length∧∀ i (hi:i < k) (h:i < cs.length),cs[i]=cs2[i]' zqo) (fun k=>⟨[(2,.pt 0 0 0),(3,.pt 1 0 0),(5,.sc (.int .i64 k))],[(0,.box 26 (eIns cs st)),(1,.box 26 (eIns cs2 st2))],2⟩) (fun k=>cs.length - k) 0 ⟨by omega,fun i hi=>by omega⟩ (zqt id) fun k hk=>?_
 obtain ⟨hk,hgood⟩:=hk
 by_cases hlt:k < cs.length
 ·have hlt2:k < cs2.length:=by omega
  by_cases he:cs[k]=cs2[k]
  ·repeat (first|refine W.gob rfl ?_|refine WL.nil ?_|refine WL.bt rfl rfl rfl zqo ?_|refine WL.e1 rfl ?_|refine WL.len rfl rfl zql ?_|refine W.condT rfl ?_)
   refine (?_:W _ _ _ _ _)
   refine W.drawK zqk zqk ?_
   repeat (first|refine DK.st rfl ?_|refine DK.idx rfl rfl zqo zqm ?_)
   refine DK.vl rfl (WV.ane rfl rfl rfl rfl rfl zqk (fun w=>eqs_crs _ _ _ _ _ _ w)) ?_
   repeat refine DK.nil ?_
   have hd:decide ((cs[k].1,cs[k].2.1,cs[k].2.2)=(cs2[k].1,cs2[k].2.1,cs2[k].2.2))=true:=decide_eq_true he
   rw [hd]
   repeat (first|refine W.go rfl ?_|refine WL.ev rfl ?_|refine WL.ar rfl rfl (by unfold I64;omega) ?_|refine W.condF rfl ?_)
   exact ⟨k+1,⟨by omega,fun i hi h=>by
    by_cases e:i=k
    ·subst e;exact he
    ·exact hgood i zqo h⟩,by omega,(zqt id)⟩
  ·have e:sameI cs st cs2 st2=false:=decide_eq_false fun h=>ne_at hlt hlt2 he h.1
   rw [e]
   repeat (first|refine W.gob rfl ?_|refine WL.nil ?_|refine WL.bt rfl rfl rfl zqo ?_|refine WL.e1 rfl ?_|refine WL.len rfl rfl zql ?_|refine W.condT rfl ?_)
   refine (?_:W _ _ _ _ _)
   refine W.drawK zqk zqk ?_
   repeat (first|refine DK.st rfl ?_|refine DK.idx rfl rfl zqo zqm ?_)
   refine DK.vl rfl (WV.ane rfl rfl rfl rfl rfl zqk (fun w=>eqs_crs _ _ _ _ _ _ w)) ?_
   repeat refine DK.nil ?_
   have hd:decide ((cs[k].1,cs[k].2.1,cs[k].2.2)=(cs2[k].1,cs2[k].2.1,cs2[k].2.2))=false:=decide_eq_false he
   rw [hd]
   repeat (first|refine W.go rfl ?_|refine W.condT rfl ?_)
   refine (?_:W _ _ _ _ _)
   exact W.ret zqr
 have hcs:cs=cs2:=ext_len hl1 fun q hq=>hgood q zqo hq
 repeat (first|refine W.gob rfl ?_|refine WL.nil ?_|refine WL.bf rfl rfl rfl zqo ?_|refine WL.e1 rfl ?_|refine WL.len rfl rfl zql ?_|refine W.condF rfl ?_)
 refine (?_:W _ _ _ _ _)
 refine W.loop (fun k:Nat=>k≤st.length∧∀ i (hi:i < k) (h:i < st.length),st[i]=st2[i]' zqo) (fun k=>⟨[(2,.pt 0 0 0),(3,.pt 1 0 0),(6,.sc (.int .i64 k))],[(0,.box 26 (eIns cs st)),(1,.box 26 (eIns cs2 st2))],2⟩) (fun k=>st.length - k) 0 ⟨by omega,fun i hi=>by omega⟩ (zqt id) fun k hk=>?_
 obtain ⟨hk,hgood2⟩:=hk
 by_cases hlt:k < st.length
 ·have hlt2:k < st2.length:=by omega
  by_cases he:st[k]=st2[k]
  ·repeat (first|refine W.gob rfl ?_|refine WL.nil ?_|refine WL.bt rfl rfl rfl zqo ?_|refine WL.e1 rfl ?_|refine WL.len rfl rfl zql ?_|refine W.condT rfl ?_)
   refine (?_:W _ _ _ _ _)
   refine W.drawK zqk zqk ?_
   repeat (first|refine DK.st rfl ?_|refine DK.idx rfl rfl zqo zqm ?_|refine DK.nil ?_)
   have hd:decide (st[k]=st2[k])=true:=decide_eq_true he
   rw [hd]
   repeat (first|refine W.go rfl ?_|refine WL.ev rfl ?_|refine WL.ar rfl rfl (by unfold I64;omega) ?_|refine W.condF rfl ?_)
   exact ⟨k+1,⟨by omega,fun i hi h=>by
    by_cases e:i=k
    ·subst e;exact he
    ·exact hgood2 i zqo h⟩,by omega,(zqt id)⟩
  ·have e:sameI cs st cs2 st2=false:=decide_eq_false fun h=>ne_at hlt hlt2 he h.2
   rw [e]
   repeat (first|refine W.gob rfl ?_|refine WL.nil ?_|refine WL.bt rfl rfl rfl zqo ?_|refine WL.e1 rfl ?_|refine WL.len rfl rfl zql ?_|refine W.condT rfl ?_)
   refine (?_:W _ _ _ _ _)
   refine W.drawK zqk zqk ?_
   repeat (first|refine DK.st rfl ?_|refine DK.idx rfl rfl zqo zqm ?_|refine DK.nil ?_)
   have hd:decide (st[k]=st2[k])=false:=decide_eq_false he
   rw [hd]
   repeat (first|refine W.go rfl ?_|refine W.condT rfl ?_)
   refine (?_:W _ _ _ _ _)
   exact W.ret zqr
 have hst:st=st2:=ext_len hl2 fun q hq=>hgood2 q zqo hq
 have e:sameI cs st cs2 st2=true:=decide_eq_true ⟨hcs,hst⟩
 rw [e]
 repeat (first|refine W.gob rfl ?_|refine WL.nil ?_|refine WL.bf rfl rfl rfl zqo ?_|refine WL.e1 rfl ?_|refine WL.len rfl rfl zql ?_|refine W.condF rfl ?_)
 refine (?_:W _ _ _ _ _)
 exact W.ret zqr
theorem pSameI_FS (cs:List (Int×Int×Bool)) (st:List Int) (cs2:List (Int×Int×Bool)) (st2:List Int) (h1:cs.length≤64) (h2:st.length≤64) (h3:cs2.length≤64) (h4:st2.length≤64):Ctr Tryz.prog 81 [.ag (eIns cs st),.ag (eIns cs2 st2)] (.sc (.bool (sameI cs st cs2 st2))):=by
 by_cases hl1:cs.length=cs2.length
 rotate_left
 ·have e:sameI cs st cs2 st2=false:=decide_eq_false fun h=>hl1 (by rw [h.1])
  rw [e]
  refine zqe Tryz.func81 Tryz.ntmps81 fun w0 F0=>?_;dsimp only [St.init,number,Nat.reduceAdd]
  repeat (first|refine W.gob rfl ?_|refine WL.nil ?_|refine WL.nt rfl rfl rfl zqo ?_|refine WL.e1 rfl ?_|refine WL.opno rfl rfl rfl rfl rfl rfl rfl ?_|refine WL.len rfl rfl zql ?_|refine W.condT rfl ?_)
  refine (?_:W _ _ _ _ _)
  exact W.ret zqr
 by_cases hl2:st.length=st2.length
 rotate_left
 ·have e:sameI cs st cs2 st2=false:=decide_eq_false fun h=>hl2 (by rw [h.2])
  rw [e]
  refine zqe Tryz.func81 Tryz.ntmps81 fun w0 F0=>?_;dsimp only [St.init,number,Nat.reduceAdd]
  repeat (first|refine W.gob rfl ?_|refine WL.nil ?_|refine WL.nt rfl rfl rfl zqo ?_|refine WL.nf rfl rfl rfl zqo ?_|refine WL.e1 rfl ?_|refine WL.gyes rfl rfl rfl rfl ?_|refine WL.len rfl rfl zql ?_|refine W.condT rfl ?_)
  refine (?_:W _ _ _ _ _)
  exact W.ret zqr
 refine zqe Tryz.func81 Tryz.ntmps81 fun w0 F0=>?_;dsimp only [St.init,number,Nat.reduceAdd]
 repeat (first|refine W.gob rfl ?_|refine WL.nil ?_|refine WL.nf rfl rfl rfl zqo ?_|refine WL.e1 rfl ?_|refine WL.gyes rfl rfl rfl rfl ?_|refine WL.len rfl rfl zql ?_|refine W.condF rfl ?_)
 refine (?_:W _ _ _ _ _)
 refine W.loop (fun k:Nat=>k≤cs.length∧∀ i (hi:i < k) (h:i < cs.length),cs[i]=cs2[i]' zqo) (fun k=>⟨[(2,.pt 0 0 0),(3,.pt 1 0 0),(25,.sc (.int .i64 cs.length)),(26,.sc (.int .i64 k))],[(0,.box 26 (eIns cs st)),(1,.box 26 (eIns cs2 st2))],2⟩) (fun k=>cs.length - k) 0 ⟨by omega,fun i hi=>by omega⟩ (zqt id) fun k hk=>?_
 obtain ⟨hk,hgood⟩:=hk
 by_cases hlt:k < cs.length
 ·have hlt2:k < cs2.length:=by omega
  by_cases he:cs[k]=cs2[k]
  ·repeat (first|refine W.gob rfl ?_|refine WL.nil ?_|refine WL.bt rfl rfl rfl zqo ?_|refine WL.e1 rfl ?_|refine W.condT rfl ?_)
   refine (?_:W _ _ _ _ _)
   refine W.drawK zqk zqk ?_
   repeat (first|refine DK.st rfl ?_|refine DK.idx rfl rfl zqo zqm ?_)
   refine DK.vl rfl (WV.ane rfl rfl rfl rfl rfl zqk (fun w=>eqs_crs _ _ _ _ _ _ w)) ?_
   repeat refine DK.nil ?_
   have hd:decide ((cs[k].1,cs[k].2.1,cs[k].2.2)=(cs2[k].1,cs2[k].2.1,cs2[k].2.2))=true:=decide_eq_true he
   rw [hd]
   repeat (first|refine W.go rfl ?_|refine WL.ev rfl ?_|refine WL.ar rfl rfl (by unfold I64;omega) ?_|refine W.condF rfl ?_)
   exact ⟨k+1,⟨by omega,fun i hi h=>by
    by_cases e:i=k
    ·subst e;exact he
    ·exact hgood i zqo h⟩,by omega,(zqt id)⟩
  ·have e:sameI cs st cs2 st2=false:=decide_eq_false fun h=>ne_at hlt hlt2 he h.1
   rw [e]
   repeat (first|refine W.gob rfl ?_|refine WL.nil ?_|refine WL.bt rfl rfl rfl zqo ?_|refine WL.e1 rfl ?_|refine W.condT rfl ?_)
   refine (?_:W _ _ _ _ _)
   refine W.drawK zqk zqk ?_
   repeat (first|refine DK.st rfl ?_|refine DK.idx rfl rfl zqo zqm ?_)
   refine DK.vl rfl (WV.ane rfl rfl rfl rfl rfl zqk (fun w=>eqs_crs _ _ _ _ _ _ w)) ?_
   repeat refine DK.nil ?_
   have hd:decide ((cs[k].1,cs[k].2.1,cs[k].2.2)=(cs2[k].1,cs2[k].2.1,cs2[k].2.2))=false:=decide_eq_false he
   rw [hd]
   repeat (first|refine W.go rfl ?_|refine W.condT rfl ?_)
   refine (?_:W _ _ _ _ _)
   exact W.ret zqr
 have hcs:cs=cs2:=ext_len hl1 fun q hq=>hgood q zqo hq
 repeat (first|refine W.gob rfl ?_|refine WL.nil ?_|refine WL.bf rfl rfl rfl zqo ?_|refine WL.e1 rfl ?_|refine WL.len rfl rfl zql ?_|refine W.condF rfl ?_)
 refine (?_:W _ _ _ _ _)
 refine W.loop (fun k:Nat=>k≤st.length∧∀ i (hi:i < k) (h:i < st.length),st[i]=st2[i]' zqo) (fun k=>⟨[(2,.pt 0 0 0),(3,.pt 1 0 0),(43,.sc (.int .i64 st.length)),(44,.sc (.int .i64 k))],[(0,.box 26 (eIns cs st)),(1,.box 26 (eIns cs2 st2))],2⟩) (fun k=>st.length - k) 0 ⟨by omega,fun i hi=>by omega⟩ (zqt id) fun k hk=>?_
 obtain ⟨hk,hgood2⟩:=hk
 by_cases hlt:k < st.length
 ·have hlt2:k < st2.length:=by omega
  by_cases he:st[k]=st2[k]
  ·repeat (first|refine W.gob rfl ?_|refine WL.nil ?_|refine WL.bt rfl rfl rfl zqo ?_|refine WL.e1 rfl ?_|refine W.condT rfl ?_)
   refine (?_:W _ _ _ _ _)
   refine W.drawK zqk zqk ?_
   repeat (first|refine DK.st rfl ?_|refine DK.idx rfl rfl zqo zqm ?_|refine DK.nil ?_)
   have hd:decide (st[k]=st2[k])=true:=decide_eq_true he
   rw [hd]
   repeat (first|refine W.go rfl ?_|refine WL.ev rfl ?_|refine WL.ar rfl rfl (by unfold I64;omega) ?_|refine W.condF rfl ?_)
   exact ⟨k+1,⟨by omega,fun i hi h=>by
    by_cases e:i=k
    ·subst e;exact he
    ·exact hgood2 i zqo h⟩,by omega,(zqt id)⟩
  ·have e:sameI cs st cs2 st2=false:=decide_eq_false fun h=>ne_at hlt hlt2 he h.2
   rw [e]
   repeat (first|refine W.gob rfl ?_|refine WL.nil ?_|refine WL.bt rfl rfl rfl zqo ?_|refine WL.e1 rfl ?_|refine W.condT rfl ?_)
   refine (?_:W _ _ _ _ _)
   refine W.drawK zqk zqk ?_
   repeat (first|refine DK.st rfl ?_|refine DK.idx rfl rfl zqo zqm ?_|refine DK.nil ?_)
   have hd:decide (st[k]=st2[k])=false:=decide_eq_false he
   rw [hd]
   repeat (first|refine W.go rfl ?_|refine W.condT rfl ?_)
   refine (?_:W _ _ _ _ _)
   exact W.ret zqr
 have hst:st=st2:=ext_len hl2 fun q hq=>hgood2 q zqo hq
 have e:sameI cs st cs2 st2=true:=decide_eq_true ⟨hcs,hst⟩
 rw [e]
 repeat (first|refine W.gob rfl ?_|refine WL.nil ?_|refine WL.bf rfl rfl rfl zqo ?_|refine WL.e1 rfl ?_|refine W.condF rfl ?_)
 refine (?_:W _ _ _ _ _)
 exact W.ret zqr
end
end Go.Proofs.YtaeelcfjkhfpkaaGreat
