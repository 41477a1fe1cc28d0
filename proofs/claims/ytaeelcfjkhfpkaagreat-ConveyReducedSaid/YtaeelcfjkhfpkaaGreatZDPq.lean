/- The onsets of what is reduced are those of the argument. Plain. -/
import Derived.Test.YtaeelcfjkhfpkaaGreatOnfPq
import Derived.Test.YtaeelcfjkhfpkaaGreatW04Pq
set_option maxHeartbeats 8000000
set_option maxRecDepth 100000
set_option linter.unusedVariables false
set_option linter.unusedSimpArgs false
namespace Go.Proofs.YtaeelcfjkhfpkaaGreat
section
open Go.RowKit
theorem z60i {z:Int} (h:I64 z:=by unfold I64;omega):I64 z:=h
def hasX(l:List Stp)(x:Stp):Bool:=l.any fun y=>y.1 == x.1 && y.2.1 == x.2.1
theorem zhas_FS (e:Ev) (h20:e.stops.length≤20) (x:Stp):Ctr Tryz.prog 22 [.ag (eEv e),.ag (eStp x)] (.sc (.bool (hasX e.stops x))):=by
 have hAt:∀ k (h:k < e.stops.length),(e.stops.map eStp)[((k:Nat):Int).toNat]?=some [.sc (.int .i64 e.stops[k].1),.sc (.int .i64 e.stops[k].2.1),.sc (.int .i64 e.stops[k].2.2.1),.sc (.int .i64 e.stops[k].2.2.2.1),.sc (.int .i64 e.stops[k].2.2.2.2)]:=fun k h=>by
  rw [Int.toNat_natCast,List.getElem?_map,List.getElem?_eq_getElem h];rfl
 have hEl:(e.stops.map eStp).length=e.stops.length:=List.length_map _
 obtain ⟨b,v,dt,th,ti,S⟩:=e
 dsimp only at hAt hEl h20 ⊢
 show Ctr Tryz.prog 22 [.ag [.sc (.bool b),.sc (.int .i64 v),.sc (.bool dt),.sc (.bool th),.sc (.bool ti),.ls 5 (S.map eStp)],.ag [.sc (.int .i64 x.1),.sc (.int .i64 x.2.1),.sc (.int .i64 x.2.2.1),.sc (.int .i64 x.2.2.2.1),.sc (.int .i64 x.2.2.2.2)]] _
 obtain ⟨SE,hSE⟩:∃ z,S.map eStp=z:=⟨_,rfl⟩
 rw [hSE] at hAt hEl ⊢
 clear hSE
 refine zqe Tryz.func22 Tryz.ntmps22 fun w0 F0=>?_;dsimp only [St.init,number,Nat.reduceAdd]
 repeat (first|refine W.gob rfl ?_|refine WL.nil ?_|refine WL.bt rfl rfl rfl zqo ?_|refine WL.bf rfl rfl rfl zqo ?_|refine WL.e1 rfl ?_|refine WL.ar rfl rfl z60i ?_|refine WL.len rfl rfl rfl ?_|refine W.condT rfl ?_|refine W.condF rfl ?_)
 (first|refine (?_:W _ _ _ _ _)|refine (?_:WL _ _ _ _ _ _)|skip)
 try dsimp only [St.put,Nat.reduceAdd]
 refine W.loop (fun k:Nat=>k≤S.length∧hasX (S.take k) x=false) (fun k=>⟨[(2,.pt 0 0 0),(3,.pt 1 0 0),(5,.sc (.int .i64 k))],[(0,.box 45 [.sc (.bool b),.sc (.int .i64 v),.sc (.bool dt),.sc (.bool th),.sc (.bool ti),.ls 5 SE]),(1,.box 48 [.sc (.int .i64 x.1),.sc (.int .i64 x.2.1),.sc (.int .i64 x.2.2.1),.sc (.int .i64 x.2.2.2.1),.sc (.int .i64 x.2.2.2.2)])],2⟩) (fun k=>S.length - k) 0 ⟨by omega,rfl⟩ (zqt id) fun k hk=>?_
 obtain ⟨hk,hno⟩:=hk
 by_cases hlt:k < S.length
 ·have h1:=hAt k hlt
  have hnx:hasX (S.take (k+1)) x=(S[k].1 == x.1 && S[k].2.1 == x.2.1):=by
   have e:hasX (S.take (k+1)) x=(hasX (S.take k) x|| (S[k].1 == x.1 && S[k].2.1 == x.2.1)):=by
    unfold hasX
    rw [List.take_succ_eq_append_getElem hlt,List.any_append];simp
   rw [e,hno,Bool.false_or]
  have hyes:(S[k].1 == x.1 && S[k].2.1 == x.2.1)=true→hasX S x=true:=fun h=>List.any_eq_true.2 ⟨S[k],List.getElem_mem hlt,h⟩
  obtain ⟨y,hy⟩:∃ z,S[k]=z:=⟨_,rfl⟩
  rw [hy] at h1 hnx hyes
  by_cases e1:y.1=x.1
  ·have d1:decide (y.1=x.1)=true:=decide_eq_true e1
   by_cases e2:y.2.1=x.2.1
   ·have d2:decide (y.2.1=x.2.1)=true:=decide_eq_true e2
    rw [hyes (by simp [e1,e2])]
    repeat (first|refine W.gob rfl ?_|refine WL.nil ?_|refine WL.bt rfl rfl rfl zqo ?_|refine WL.bf rfl rfl rfl zqo ?_|refine WL.e1 rfl ?_|refine WL.ar rfl rfl z60i ?_|refine WL.len rfl rfl rfl ?_|refine W.condT rfl ?_|refine W.condF rfl ?_)
    (first|refine (?_:W _ _ _ _ _)|refine (?_:WL _ _ _ _ _ _)|skip)
    try dsimp only [St.put,Nat.reduceAdd]
    refine W.drawK zqk zqk ?_
    repeat (first|refine DK.bt rfl rfl (by omega) ?_|refine DK.bf rfl rfl (by omega) ?_|refine DK.tt rfl (by first|(simp;done)|fail) ?_|refine DK.ff rfl (by first|(simp;done)|fail) ?_|refine DK.st rfl ?_|refine DK.nil ?_)
    refine DK.idx rfl rfl zqo h1 ?_
    repeat (first|refine DK.bt rfl rfl (by omega) ?_|refine DK.bf rfl rfl (by omega) ?_|refine DK.tt rfl (by first|(simp;done)|fail) ?_|refine DK.ff rfl (by first|(simp;done)|fail) ?_|refine DK.st rfl ?_|refine DK.nil ?_)
    refine DK.idx rfl rfl zqo h1 ?_
    repeat (first|refine DK.bt rfl rfl (by omega) ?_|refine DK.bf rfl rfl (by omega) ?_|refine DK.tt rfl (by first|(simp;done)|fail) ?_|refine DK.ff rfl (by first|(simp;done)|fail) ?_|refine DK.st rfl ?_|refine DK.nil ?_)
    repeat (first|refine W.gob rfl ?_|refine WL.nil ?_|refine WL.bt rfl rfl rfl zqo ?_|refine WL.bf rfl rfl rfl zqo ?_|refine WL.e1 rfl ?_|refine WL.ar rfl rfl z60i ?_|refine WL.len rfl rfl rfl ?_|refine W.condT rfl ?_|refine W.condF rfl ?_)
    (first|refine (?_:W _ _ _ _ _)|refine (?_:WL _ _ _ _ _ _)|skip)
    try dsimp only [St.put,Nat.reduceAdd]
    exact W.ret zqr
   ·have d2:decide (y.2.1=x.2.1)=false:=decide_eq_false e2
    repeat (first|refine W.gob rfl ?_|refine WL.nil ?_|refine WL.bt rfl rfl rfl zqo ?_|refine WL.bf rfl rfl rfl zqo ?_|refine WL.e1 rfl ?_|refine WL.ar rfl rfl z60i ?_|refine WL.len rfl rfl rfl ?_|refine W.condT rfl ?_|refine W.condF rfl ?_)
    (first|refine (?_:W _ _ _ _ _)|refine (?_:WL _ _ _ _ _ _)|skip)
    try dsimp only [St.put,Nat.reduceAdd]
    refine W.drawK zqk zqk ?_
    repeat (first|refine DK.bt rfl rfl (by omega) ?_|refine DK.bf rfl rfl (by omega) ?_|refine DK.tt rfl (by first|(simp;done)|fail) ?_|refine DK.ff rfl (by first|(simp;done)|fail) ?_|refine DK.st rfl ?_|refine DK.nil ?_)
    refine DK.idx rfl rfl zqo h1 ?_
    repeat (first|refine DK.bt rfl rfl (by omega) ?_|refine DK.bf rfl rfl (by omega) ?_|refine DK.tt rfl (by first|(simp;done)|fail) ?_|refine DK.ff rfl (by first|(simp;done)|fail) ?_|refine DK.st rfl ?_|refine DK.nil ?_)
    refine DK.idx rfl rfl zqo h1 ?_
    repeat (first|refine DK.bt rfl rfl (by omega) ?_|refine DK.bf rfl rfl (by omega) ?_|refine DK.tt rfl (by first|(simp;done)|fail) ?_|refine DK.ff rfl (by first|(simp;done)|fail) ?_|refine DK.st rfl ?_|refine DK.nil ?_)
    repeat (first|refine W.gob rfl ?_|refine WL.nil ?_|refine WL.bt rfl rfl rfl zqo ?_|refine WL.bf rfl rfl rfl zqo ?_|refine WL.e1 rfl ?_|refine WL.ar rfl rfl z60i ?_|refine WL.len rfl rfl rfl ?_|refine W.condT rfl ?_|refine W.condF rfl ?_)
    (first|refine (?_:W _ _ _ _ _)|refine (?_:WL _ _ _ _ _ _)|skip)
    try dsimp only [St.put,Nat.reduceAdd]
    exact ⟨k+1,⟨by omega,by rw [hnx];simp [e2]⟩,by omega,(zqt id)⟩
  ·repeat (first|refine W.gob rfl ?_|refine WL.nil ?_|refine WL.bt rfl rfl rfl zqo ?_|refine WL.bf rfl rfl rfl zqo ?_|refine WL.e1 rfl ?_|refine WL.ar rfl rfl z60i ?_|refine WL.len rfl rfl rfl ?_|refine W.condT rfl ?_|refine W.condF rfl ?_)
   (first|refine (?_:W _ _ _ _ _)|refine (?_:WL _ _ _ _ _ _)|skip)
   try dsimp only [St.put,Nat.reduceAdd]
   refine W.drawK zqk zqk ?_
   repeat (first|refine DK.bt rfl rfl (by omega) ?_|refine DK.bf rfl rfl (by omega) ?_|refine DK.tt rfl (by first|(simp;done)|fail) ?_|refine DK.ff rfl (by first|(simp;done)|fail) ?_|refine DK.st rfl ?_|refine DK.nil ?_)
   refine DK.idx rfl rfl zqo h1 ?_
   repeat (first|refine DK.bt rfl rfl (by omega) ?_|refine DK.bf rfl rfl (by omega) ?_|refine DK.tt rfl (by first|(simp;done)|fail) ?_|refine DK.ff rfl (by first|(simp;done)|fail) ?_|refine DK.st rfl ?_|refine DK.nil ?_)
   repeat (first|refine DK.st rfl ?_|refine DK.nil ?_)
   repeat (first|refine W.gob rfl ?_|refine WL.nil ?_|refine WL.bt rfl rfl rfl zqo ?_|refine WL.bf rfl rfl rfl zqo ?_|refine WL.e1 rfl ?_|refine WL.ar rfl rfl z60i ?_|refine WL.len rfl rfl rfl ?_|refine W.condT rfl ?_|refine W.condF rfl ?_)
   (first|refine (?_:W _ _ _ _ _)|refine (?_:WL _ _ _ _ _ _)|skip)
   try dsimp only [St.put,Nat.reduceAdd]
   exact ⟨k+1,⟨by omega,by rw [hnx];simp [e1]⟩,by omega,(zqt id)⟩
 ·obtain rfl:k=S.length:=by omega
  rw [List.take_length] at hno
  rw [hno]
  repeat (first|refine W.gob rfl ?_|refine WL.nil ?_|refine WL.bt rfl rfl rfl zqo ?_|refine WL.bf rfl rfl rfl zqo ?_|refine WL.e1 rfl ?_|refine WL.ar rfl rfl z60i ?_|refine WL.len rfl rfl rfl ?_|refine W.condT rfl ?_|refine W.condF rfl ?_)
  (first|refine (?_:W _ _ _ _ _)|refine (?_:WL _ _ _ _ _ _)|skip)
  try dsimp only [St.put,Nat.reduceAdd]
  exact W.ret zqr
end
section
open Go.RowKit
theorem lsL_none {C:Cg} {H:Nat→Stp→Int} {evs:List Ev}:∀ n,n≤evs.length→lsL C H evs n=[]→∀ k (hk:k<evs.length),k<n→lsE C H k evs[k]=[]
 | 0,_,_,k,hk,h=>absurd h (Nat.not_lt_zero _)
 | n+1,hn,h,k,hk,hkn=>by
  rw [lsL_at (show n<evs.length by omega),List.append_eq_nil_iff] at h
  by_cases e:k=n
  ·subst e;exact h.2
  ·exact lsL_none n zqo h.1 k hk zqo
theorem red_none {s:Int} {p:Pce} (h:redX s p=0)(hl:redL s p=[]):(redP s p).evs=redQ s p:=by
 rw [show redL s p=_ from if_pos h] at hl
 have hE:=lsL_none _ (Nat.le_refl _) hl
 apply List.ext_getElem (by rw [redP_evs h,fnL_len];unfold redN;rw [nwL_len])
 intro k h1 h2
 obtain⟨hk2,e1⟩:=red_get h h1
 have hk:=hE k h2 h2
 rw [e1]
 generalize (redQ s p)[k]=e at hk
 unfold lsE at hk
 rw [List.append_eq_nil_iff,List.flatMap_eq_nil_iff] at hk
 obtain⟨ha,hb⟩:=hk
 have hx:∀ x∈e.stops,(redC s).mv x=some x∧znH s (redN s p) k x=x.2.2.2.2:=fun x hx=>by
  have hq:=hb x hx
  unfold lsS at hq
  cases hm:(redC s).mv x with
  | none=>rw [hm] at hq;cases hq
  | some y =>
   rw [hm] at hq
   dsimp only at hq
   rw [List.append_eq_nil_iff] at hq
   obtain⟨q1,q2⟩:=hq
   obtain⟨hp,rfl⟩:=redC_mv hm
   have q1:((if okR s x.2.2.1=true then [] else [2])++(if okG s x.2.2.2.1=true then [] else [3]):List Int).map (fun w=>((k:Int),x.1,w))=[]:=q1
   rw [List.map_eq_nil_iff,List.append_eq_nil_iff] at q1
   have r1:okR s x.2.2.1=true:=by
    cases hr:okR s x.2.2.1 with
    | true=>rfl
    | false=>rw [hr] at q1;cases q1.1
   have r2:okG s x.2.2.2.1=true:=by
    cases hr:okG s x.2.2.2.1 with
    | true=>rfl
    | false=>rw [hr] at q1;cases q1.2
   have e2:=mr_id r1 r2
   rw [e2] at q2 ⊢
   refine⟨rfl,?_⟩
   by_cases e3:znH s (redN s p) k x=x.2.2.2.2
   ·exact e3
   ·rw [if_neg e3] at q2;cases q2
 have hn:=nwS_id (C:=redC s) fun x hh=>(hx x hh).1
 have ht:nwT (redC s) k e=e.tie:=by
  unfold nwT
  rw [hn]
  by_cases h0:e.stops.length=0
  ·rw [if_pos h0]
   unfold lsH at ha
   have hv:evT (redC s) k e=0:=by
    by_cases e3:evT (redC s) k e=0
    ·exact e3
    ·rw [if_neg e3] at ha;cases ha
   unfold evT at hv
   rw [if_pos h0] at hv
   cases h5:e.tie<;>cases h6:(redC s).tie k e
   ·rfl
   ·rw [h5,h6] at hv;simp at hv
   ·rw [h5,h6] at hv;simp at hv
   ·rfl
  ·rw [if_neg h0,if_neg h0]
 unfold fnE nwE
 rw [hn,ht]
 have:e.stops.map (fun y=>stH y (znH s (redN s p) k y))=e.stops:=by
  refine (List.map_congr_left fun x hh=>?_).trans (List.map_id _)
  rw [(hx x hh).2];rfl
 rw [this]
theorem red_has {s:Int} {p:Pce} (h:redX s p=0) {k:Nat} (hk:k<(redP s p).evs.length)(hk3:k<p.evs.length) {y:Stp} (hy:y∈(redP s p).evs[k].stops):hasX p.evs[k].stops y=true:=by
 obtain⟨hk2,e1⟩:=red_get h hk
 rw [e1] at hy
 obtain⟨z,hz,rfl⟩:=List.mem_map.1 hy
 obtain⟨x,hx,hm⟩:=nwS_mem hz
 obtain⟨_,rfl⟩:=redC_mv hm
 have hs:(redQ s p)[k].stops=p.evs[k].stops:=by
  by_cases h4:s=4
  ·have e:(redQ s p)[k]?=some (sgW p.evs[k] (sgF p.evs (k+1))):=by
    rw [show redQ s p=plE p from if_pos h4,List.getElem?_eq_getElem (by rw [plE_length];exact hk3)]
    exact congrArg some (plN_get (evs:=p.evs) hk3 (Nat.le_refl _))
   rw [List.getElem?_eq_getElem hk2] at e
   rw [Option.some.inj e];rfl
  ·have e2:(redQ s p)[k]?=p.evs[k]?:=by rw [show redQ s p=p.evs from if_neg h4]
   rw [List.getElem?_eq_getElem hk2,List.getElem?_eq_getElem hk3] at e2
   rw [Option.some.inj e2]
 rw [← hs]
 unfold hasX
 rw [List.any_eq_true]
 refine⟨x,hx,?_⟩
 show (x.1 == x.1 && x.2.1 == x.2.1)=true
 simp
end
section
open Go.RowKit
theorem sgF_tkz {p:Pce} (h0:pceE p=0):∀ k,k≤p.evs.length→tkV (sgF p.evs k).1 (sgF p.evs k).2.1 (sgF p.evs k).2.2=frc 0 (p.evs.take k)
 | 0,_=>by simp [sgF,frc,tkV]
 | k+1,h=>by
  have hk:k<p.evs.length:=by omega
  have ih:=sgF_tkz h0 k zqo
  have hok:=(evOk_of h0 hk).sg
  have e1:sgF p.evs (k+1)=if p.evs[k].val=0 then sgF p.evs k else (p.evs[k].val,p.evs[k].dot,p.evs[k].three):=by
   show (match p.evs[k]? with|some e=>_|none=>_)=_
   rw [List.getElem?_eq_getElem hk]
  rw [frc_take hk,e1]
  by_cases hv:p.evs[k].val=0
  ·have hz:tkV p.evs[k].val p.evs[k].dot p.evs[k].three=0:=if_pos (.inl zqo)
   rw [if_pos hv,hz,if_neg (by omega)]
   exact ih
  ·rw [if_neg hv]
   have hpos:0<tkV p.evs[k].val p.evs[k].dot p.evs[k].three:=by
    unfold sgOk at hok
    simp only [Bool.or_eq_true,Bool.and_eq_true,beq_iff_eq,decide_eq_true_eq,Bool.not_eq_true']at hok
    rcases hok with h|h
    ·exact absurd h.1.1 hv
    ·exact tkV_pos _ _ _ h.1 h.2
   rw [if_pos hpos]
def sg3(e:Ev):Int×Bool×Bool:=(e.val,e.dot,e.three)
theorem frc_sg:∀ {l m:List Ev} (t:Int),l.map sg3=m.map sg3→frc t l=frc t m
 | [],[],_,_=>rfl
 | [],y::m,_,h=>by simp at h
 | x::l,[],_,h=>by simp at h
 | x::l,y::m,t,h=>by
  rw [List.map_cons,List.map_cons]at h
  obtain⟨h1,h2⟩:=List.cons.inj h
  unfold sg3 at h1
  obtain⟨a,b⟩:=Prod.mk.inj h1
  obtain⟨b,c⟩:=Prod.mk.inj b
  unfold frc
  rw [a,b,c]
  exact frc_sg _ h2
theorem red_len {s:Int} {p:Pce} (h:redX s p=0):(redP s p).evs.length=p.evs.length:=by
 rw [redP_evs h,fnL_len];unfold redN;rw [nwL_len,redQ_len]
theorem red_frc {s:Int} {p:Pce} (h:redX s p=0) {k:Nat} (hk:k < p.evs.length):frc 0 ((redP s p).evs.take (k+1))=frc 0 (p.evs.take (k+1)):=by
 obtain ⟨hs,h0,_⟩:=redX_0 h
 have hl:=red_len h
 by_cases h4:s=4
 ·have hk1:k < (redP s p).evs.length:=by omega
  rw [← sgF_tkz h0 (k+1) (by omega),← sgF_tkz (red_valid h) (k+1) (by omega),sgF_at hk1]
  obtain ⟨hk2,e1⟩:=red_get h hk1
  have hq:=(redQ_4 h h4 _ (List.getElem_mem hk2)).1
  have e2:(redQ s p)[k]=sgW p.evs[k] (sgF p.evs (k+1)):=by
   have e:(redQ s p)[k]?=some (sgW p.evs[k] (sgF p.evs (k+1))):=by
    rw [show redQ s p=plE p from if_pos h4,List.getElem?_eq_getElem (by rw [plE_length];exact hk)]
    exact congrArg some (plN_get (evs:=p.evs) hk (Nat.le_refl _))
   rw [List.getElem?_eq_getElem hk2] at e
   exact Option.some.inj e
  rw [e1]
  have key:∀ Y:Ev,Y.val=(redQ s p)[k].val→Y.dot=(redQ s p)[k].dot→Y.three=(redQ s p)[k].three→tkV (if Y.val=0 then sgF (redP s p).evs k else (Y.val,Y.dot,Y.three)).1 (if Y.val=0 then sgF (redP s p).evs k else (Y.val,Y.dot,Y.three)).2.1 (if Y.val=0 then sgF (redP s p).evs k else (Y.val,Y.dot,Y.three)).2.2=tkV (sgF p.evs (k+1)).1 (sgF p.evs (k+1)).2.1 (sgF p.evs (k+1)).2.2:=by
   intro Y h1 h2 h3
   rw [if_neg (by rw [h1];exact hq)]
   show tkV Y.val Y.dot Y.three=_
   rw [h1,h2,h3,e2];rfl
  exact key _ rfl rfl rfl
 ·refine frc_sg 0 ?_
  rw [List.map_take,List.map_take]
  congr 1
  apply List.ext_getElem (by rw [List.length_map,List.length_map,hl])
  intro i h1 h2
  have hi:i < (redP s p).evs.length:=by simpa using h1
  have hi2:i < p.evs.length:=by simpa using h2
  obtain ⟨hk2,e1⟩:=red_get h hi
  rw [List.getElem_map,List.getElem_map,e1]
  have e2:(redQ s p)[i]=p.evs[i]:=by
   have:(redQ s p)[i]?=p.evs[i]?:=by rw [show redQ s p=p.evs from if_neg h4]
   rw [List.getElem?_eq_getElem hk2,List.getElem?_eq_getElem hi2] at this
   exact Option.some.inj this
  rw [e2];rfl
theorem red_ons {s:Int} {p:Pce} (h:redX s p=0):onsL (redP s p).evs (redP s p).evs.length=onsL p.evs p.evs.length:=by
 have key:∀ k,k≤p.evs.length→onsAt (redP s p).evs k=onsAt p.evs k:=by
  intro k
  induction k with
  | zero=>intro _;rfl
  | succ k ih =>
   intro hk
   unfold onsAt
   rw [ih (by omega),red_frc h (by omega)]
 unfold onsL
 rw [red_len h]
 exact List.map_congr_left fun k hk=>key k (by have:=List.mem_range.1 hk;omega)
end
end Go.Proofs.YtaeelcfjkhfpkaaGreat
