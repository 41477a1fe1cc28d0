/- A walk that knows values as trees: a call that only looks at what the caller may write, and hands out a list of its own. -/
import Derived.Test.YtaeelcfjkhfpkaaGreatYRNq
set_option maxHeartbeats 8000000
set_option maxRecDepth 100000
set_option linter.unusedVariables false
set_option linter.unusedSimpArgs false
namespace Go.Proofs.YtaeelcfjkhfpkaaGreat
section
open Go.RowKit
def Cg.pl (C : Cg) (x : Stp) : Option Stp := if (C.ch x).2 = true then none else some (C.ch x).1
def pcS(C:Cg)(l:List Stp):List Stp:=l.filterMap C.pl
def kpS(C:Cg)(l:List Stp):List Stp:=l.filter fun x=>!(C.ch x).2
theorem pcS_fr (C:Cg):∀ l:List Stp,pcS C l=(kpS C l).map fun x=>(C.ch x).1
 | []=>rfl
 | x::r=>by
  have ih:=pcS_fr C r
  unfold pcS kpS at ih ⊢
  rw [List.filterMap_cons,List.filter_cons]
  cases h:(C.ch x).2 with
  | true=>rw [show C.pl x=none from if_pos h,ih];rfl
  | false=>rw [show C.pl x=some (C.ch x).1 from if_neg (by rw [h];simp),ih];rfl
theorem nwS_fr (C:Cg):∀ l:List Stp,nwS C l=(kpS C l).map fun x=>C.mr (C.ch x).1
 | []=>rfl
 | x::r=>by
  have ih:=nwS_fr C r
  unfold nwS kpS at ih ⊢
  rw [List.filterMap_cons,List.filter_cons]
  cases h:(C.ch x).2 with
  | true=>rw [show C.mv x=none from if_pos h,ih];rfl
  | false=>rw [show C.mv x=some (C.mr (C.ch x).1)from if_neg (by rw [h];simp),ih];rfl
structure CgLs (C:Cg):Prop where
 crs:∀ x y,C.mv x=some y→y.1=x.1∧y.2.2.2.2=x.2.2.2.2
 ml:∀ x y,C.mv x=some y→C.ml (C.ch x).1=(if y.2.2.1=x.2.2.1 then []else [2])++(if y.2.2.2.1=x.2.2.2.1 then []else [3])
end
section
open Go.RowKit
theorem kpS_app (C:Cg)(l m:List Stp):kpS C (l++m)=kpS C l++kpS C m:=List.filter_append ..
theorem kp_pos {C:Cg} {l:List Stp} {k:Nat} (h:k<l.length)(hc:(C.ch l[k]).2=false):(kpS C l)[(kpS C (l.take k)).length]?=some l[k]:=by
 have e:l=l.take k++(l[k]::l.drop (k+1)):=by rw [List.getElem_cons_drop,List.take_append_drop]
 have e2:kpS C (l[k]::l.drop (k+1))=l[k]::kpS C (l.drop (k+1)):=by
  unfold kpS;rw [List.filter_cons,hc];rfl
 have e3:kpS C l=kpS C (l.take k)++(l[k]::kpS C (l.drop (k+1))):=by
  rw [← e2,← kpS_app,← e]
 rw [e3,List.getElem?_append_right (Nat.le_refl _),Nat.sub_self];rfl
theorem nw_pos {C:Cg} {l:List Stp} {k:Nat} (h:k<l.length) (hc:(C.ch l[k]).2=false) (f:Stp→Int):((nwS C l).map fun y=>stH y (f y))[(kpS C (l.take k)).length]?=some (stH (C.mr (C.ch l[k]).1) (f (C.mr (C.ch l[k]).1))):=by
 rw [nwS_fr,List.getElem?_map,List.getElem?_map,kp_pos h hc];rfl
theorem lsS_lost {C:Cg} {H:Nat→Stp→Int} {i:Nat} {x:Stp} (hc:(C.ch x).2=true):lsS C H i x=[((i:Int),x.1,1)]:=by
 unfold lsS
 rw [show C.mv x=none from if_pos hc]
theorem lsS_kept {C:Cg} (hC:CgLs C) {H:Nat→Stp→Int} {i:Nat} {x:Stp} (hc:(C.ch x).2=false) :
  lsS C H i x=((if (C.mr (C.ch x).1).2.2.1=x.2.2.1 then []else [((i:Int),x.1,(2:Int))])++(if (C.mr (C.ch x).1).2.2.2.1=x.2.2.2.1 then []else [((i:Int),x.1,(3:Int))]))++(if H i (C.mr (C.ch x).1)=x.2.2.2.2 then []else [((i:Int),x.1,(4:Int))]):=by
 have hm:C.mv x=some (C.mr (C.ch x).1):=if_neg (by rw [hc];simp)
 unfold lsS
 rw [hm]
 dsimp only
 rw [hC.ml x _ hm,List.map_append]
 congr 2
 ·split<;>rfl
 ·split<;>rfl
end
section
open Go.RowKit
def eKp (x:Stp×Bool):List AV:=[.sc (.int .i64 x.1.1),.sc (.int .i64 x.1.2.1),.sc (.int .i64 x.1.2.2.1),.sc (.int .i64 x.1.2.2.2.1),.sc (.int .i64 x.1.2.2.2.2),.sc (.bool x.2)]
def eRs (y:Stp)(c h:Int)(ml:List Int):List AV:=[.sc (.int .i64 y.1),.sc (.int .i64 y.2.1),.sc (.int .i64 y.2.2.1),.sc (.int .i64 y.2.2.2.1),.sc (.int .i64 y.2.2.2.2),.sc (.int .i64 c),.sc (.int .i64 h),.ls 1 (ml.map eInt)]
abbrev Nte:=Stp×Int×Int×List Int
def eNt(r:Nte):List AV:=eRs r.1 r.2.1 r.2.2.1 r.2.2.2
def eBl (b:Bool):List AV:=[.sc (.bool b)]
def oc1 (C:Cg)(x:Stp):Nte:=if (C.ch x).2=true then ((C.ch x).1,x.1,x.2.2.2.2,[])else (C.mr (C.ch x).1,x.1,x.2.2.2.2,C.ml (C.ch x).1)
def ocN (C:Cg)(l:List Stp):List Nte:=l.map (oc1 C)
def ocG(C:Cg)(l:List Stp):List Bool:=l.map fun x=>(C.ch x).2
def eOc (lost:Int)(ns:List Nte)(gs:List Bool):List AV:=[.sc (.int .i64 lost),.ls 8 (ns.map eNt),.ls 1 (gs.map eBl)]
def eEvS (e:Ev)(k:Nat):List AV:=[.sc (.bool e.bar),.sc (.int .i64 e.val),.sc (.bool e.dot),.sc (.bool e.three),.sc (.bool e.tie),.sl k]
theorem ocN_len(C:Cg)(l:List Stp):(ocN C l).length=l.length:=List.length_map _
theorem ocG_len(C:Cg)(l:List Stp):(ocG C l).length=l.length:=List.length_map _
theorem nw_rows (C:Cg) {l:List Stp} {k:Nat} (h:k<l.length):(nwS C (l.take k)).map eStp++(if (C.ch l[k]).2=true then []else [eStp (C.mr (C.ch l[k]).1)])=(nwS C (l.take (k+1))).map eStp:=by
 rw [nwS_snoc h,List.map_append]
 congr 1
 unfold Cg.mv
 cases (C.ch l[k]).2<;>rfl
theorem ocN_rows (C:Cg) {l:List Stp} {k:Nat} (h:k<l.length):(ocN C (l.take k)).map eNt++[eNt (if (C.ch l[k]).2=true then ((C.ch l[k]).1,l[k].1,l[k].2.2.2.2,[])else (C.mr (C.ch l[k]).1,l[k].1,l[k].2.2.2.2,C.ml (C.ch l[k]).1))]=(ocN C (l.take (k+1))).map eNt:=by
 unfold ocN
 rw [List.take_succ_eq_append_getElem h,List.map_append,List.map_append];rfl
theorem ocG_rows (C:Cg) {l:List Stp} {k:Nat} (h:k<l.length):(ocG C (l.take k)).map eBl++[eBl (C.ch l[k]).2]=(ocG C (l.take (k+1))).map eBl:=by
 unfold ocG
 rw [List.take_succ_eq_append_getElem h,List.map_append,List.map_append];rfl
end
section
open Go.RowKit
theorem asc_ge {l:List Stp} (ha:l.Pairwise fun x y=>x.1<y.1) (h1:∀ x∈l,1≤x.1):∀ k (h:k<l.length),(k:Int)+1≤l[k].1
 | 0,h=>by have:=h1 _ (List.getElem_mem h);omega
 | k+1,h=>by
  have:=asc_ge ha h1 k zqo
  have h2:=List.pairwise_iff_getElem.1 ha k (k+1) (by omega) h (by omega)
  omega
theorem asc14 {l:List Stp} (ha:l.Pairwise fun x y=>x.1<y.1) (hb:∀ x∈l,1≤x.1∧x.1≤14):l.length≤14:=by
 rcases Nat.eq_zero_or_pos l.length with h|h
 ·omega
 ·have h1:=asc_ge ha (fun x hx=>(hb x hx).1) (l.length-1) zqo
  have h2:=(hb _ (List.getElem_mem (show l.length-1<l.length by omega))).2
  omega
def evK(evs:List Ev) (n:Nat) (K:List Stp):List Ev:=evs.set n { (evs.getD n ⟨false,0,false,false,false,[]⟩)with stops:=K }
theorem evK_at {evs:List Ev} {n:Nat} (h:n<evs.length)(K:List Stp):evK evs n K=evs.set n { evs[n]with stops:=K }:=by
 unfold evK
 rw [List.getD_eq_getElem?_getD,List.getElem?_eq_getElem h];rfl
theorem evK_len(evs:List Ev)(n:Nat)(K:List Stp):(evK evs n K).length=evs.length:=by unfold evK;rw [List.length_set]
theorem evK_crs {evs:List Ev} {n:Nat} (h:n<evs.length) {K:List Stp} (hK:K.map (fun x=>x.1)=evs[n].stops.map fun x=>x.1):(evK evs n K).map crsE'=evs.map crsE':=by
 rw [evK_at h,List.map_set]
 have e:crsE' { evs[n]with stops:=K }=crsE' evs[n]:=by
  have hl:K.length=evs[n].stops.length:=by have:=congrArg List.length hK;simpa using this
  unfold crsE' restB
  show (_,_)=(_,_)
  rw [hK,hl]
 rw [e]
 apply List.ext_getElem (by rw [List.length_set])
 intro i h1 h2
 rw [List.getElem_set]
 split
 ·rename_i hi;subst hi;rw [List.getElem_map]
 ·rfl
theorem evK_20 {evs:List Ev} {n:Nat} (h:n<evs.length) {K:List Stp} (hK:K.length≤20)(h20:∀ e∈evs,e.stops.length≤20):∀ e∈evK evs n K,e.stops.length≤20:=by
 intro e he
 rw [evK_at h]at he
 rcases List.mem_or_eq_of_mem_set he with he|rfl
 ·exact h20 e he
 ·exact hK
theorem evK_rowsO {evs:List Ev} {n:Nat} (h:n<evs.length)(K:List Stp):(evs.map eEvO).set n ((eEvO evs[n]).set 5 (.ow 48 5 (K.map eStp)))=(evK evs n K).map eEvO:=by
 rw [evK_at h,List.map_set];rfl
theorem evK_rows {evs:List Ev} {n:Nat} (h:n<evs.length)(K:List Stp):(evs.map eEv).set n ((eEv evs[n]).set 5 (.ls 5 (K.map eStp)))=(evK evs n K).map eEv:=by
 rw [evK_at h,List.map_set];rfl
theorem evK_lent {evs:List Ev} {n:Nat} (h:n<evs.length)(K:List Stp):((evs.map eEvO).map fun r=>r.map (AV.fz 1)).set n (((eEvO evs[n]).map (AV.fz 1)).set 5 (.ls 5 (K.map eStp)))=(evK evs n K).map eEv:=by
 rw [eEvO_rows,eEvO_fz];exact evK_rows h K
theorem evO_at {evs:List Ev} {n:Nat} (h:n<evs.length):(evs.map eEvO)[n]?=some (eEvO evs[n]):=by rw [List.getElem?_map,List.getElem?_eq_getElem h];rfl
theorem stpK_row {K:List Stp} {j:Nat} {x:Stp} (h:K[j]?=some x):(K.map eStp)[j]?=some (eStp x):=by rw [List.getElem?_map,h];rfl
theorem stpK_put {K:List Stp} {j:Nat} (x:Stp)(h:Int):(K.map eStp).set j (putL 4 [.sc (.int .i64 h)] (eStp x))=(K.set j (stH x h)).map eStp:=by rw [List.map_set];rfl
theorem set_crs {K:List Stp} {j:Nat} {x:Stp} (h:K[j]?=some x)(z:Int):(K.set j (stH x z)).map (fun x=>x.1)=K.map fun x=>x.1:=by
 rw [List.map_set]
 have hj:j<K.length:=(List.getElem?_eq_some_iff.1 h).1
 have e:(stH x z).1=(K.map fun x=>x.1)[j]'(by rw [List.length_map];exact hj):=by
  rw [List.getElem_map]
  rw [List.getElem?_eq_getElem hj]at h
  rw [Option.some.inj h];rfl
 rw [e,List.set_getElem_self]
theorem fnK_crs (H:Nat→Stp→Int)(n j:Nat)(l:List Stp):(fnK H n j l).map (fun x=>x.1)=l.map fun x=>x.1:=by
 unfold fnK
 rw [List.map_append,List.map_map,show ((fun x:Stp=>x.1) ∘ fun y=>stH y (H n y))=fun x:Stp=>x.1 from rfl,← List.map_append,List.take_append_drop]
theorem fnN_0at {H:Nat→Stp→Int} {evs:List Ev} {n:Nat} (h:n<evs.length):(fnN H evs n 0)[n]'(by rw [fnN_len];exact h)=evs[n]:=by
 simp only [fnN,List.getElem_mapIdx]
 simp
theorem evK_done {H:Nat→Stp→Int} {evs:List Ev} {n:Nat} (h:n<evs.length):evK (fnN H evs n 0) n (fnK H n evs[n].stops.length evs[n].stops)=fnN H evs (n+1) 0:=by
 rw [evK_at (by rw [fnN_len];exact h)]
 apply List.ext_getElem (by rw [List.length_set,fnN_len,fnN_len])
 intro i h1 h2
 have hi:i<evs.length:=by rw [fnN_len] at h2;exact h2
 rw [List.getElem_set]
 simp only [fnN,List.getElem_mapIdx]
 by_cases e:n=i
 ·subst e
  simp [fnE,fnK]
 ·rw [if_neg e]
  by_cases e2:i<n
  ·rw [if_pos e2,if_pos (by omega)]
  ·rw [if_neg e2,if_neg (fun h=>e h.symm),if_neg (by omega)]
   by_cases e3:i=n+1
   ·subst e3;simp
   ·rw [if_neg e3]
theorem fnN_20 {H:Nat→Stp→Int} {evs:List Ev} (h20:∀ e∈evs,e.stops.length≤20)(n k:Nat):∀ e∈fnN H evs n k,e.stops.length≤20:=by
 intro e he
 obtain⟨i,hi,rfl⟩:=List.getElem_of_mem he
 have hi':i<evs.length:=by rw [fnN_len]at hi;exact hi
 rw [fnN_stops hi']
 exact h20 _ (List.getElem_mem hi')
end
section
open Go.RowKit
section
variable {P:Program} {C:Cx} {σ:St}
def ldaV (P:Program)(σ:St):Op→Option (TypeId×List (List AV)×Nat×Nat)
 | .load T x =>
  match σ.ev x with
  | some (.pt k i j) =>
   match look k σ.M with
   | some (.row _ _ rows)=>some (T,rows,i,j)
   | some (.rwn _ _ rows)=>some (T,rows,i,j)
   | _=>none
  | _=>none
 | _=>none
theorem ldaV_of {o:Oper} {T:TypeId} {rows:List (List AV)} {i j:Nat} {r:List AV} {av:AV} (h:ldaV P σ o.op=some (T,rows,i,j))(hi:rows[i]?=some r)(ht:takeO P T (r.drop j)=some av):WV P C o σ av:=by
 unfold ldaV at h
 split at h
 ·rename_i T' x ho
  split at h
  ·rename_i k i' j' hx
   split at h
   ·rename_i T2 n rows' hk
    cases h
    have hf:(AO.row T2 n rows).from_ i j=some (r.drop j):=by simp [AO.from_,hi]
    exact loadV_of ho hx (by simp only [loadV,hk,hf];exact ht)
   ·rename_i T2 n rows' hk
    cases h
    have hf:(AO.rwn T2 n rows).from_ i j=some (r.drop j):=by simp [AO.from_,hi]
    exact loadV_of ho hx (by simp only [loadV,hk,hf];exact ht)
   ·cases h
  ·cases h
 ·cases h
variable {ops:Array Oper} {o:Oper} {rest:List Oper} {d:Tmp} {Q:Exit→St→Prop}
theorem DK.lda {T:TypeId} {rows:List (List AV)} {i j:Nat} {r:List AV} {av:AV} (hd:dstD C.N ops σ o=some d)(h:ldaV P (σ.only (o.looksAt ops)) o.op=some (T,rows,i,j))(hi:rows[i]?=some r)(ht:takeO P T (r.drop j)=some av)(k:DK P C ops rest (σ.put d av) Q):DK P C ops (o::rest) σ Q:=DK.vl hd (ldaV_of h hi ht) k
end
end
section
open Go.RowKit
section
variable {B:World→View→Prop} {gl:Nat} {P:Program} {C:Cx} {σ:St} {o:Oper} {d:Tmp}
theorem fpM_nil {G:Gh} {x:Nat}:¬ fpM G [] x:=by
 unfold fpM
 rintro⟨k,ob,h,_⟩
 cases h
theorem WO.lendO (hB:Holds B gl C) {f:FuncId} {y:Operand} {fv:AV} {xs:Array Operand} {ts:Array TypeId} {args0 caps args args':List AV} {T n q:Nat} {rows:List (List AV)} (ho:o.op=.call { callee:=.value y,args:=xs,argTypes:=ts }) (hc:∀ vs w,(callFunc f vs).run P w=.ok (.enter f vs) w)
  (hy:σ.ev y=some fv) (hf:fnOf fv=some (f,caps)) (hx:σ.evs xs.toList=some args0) (hcat:args0++caps=args) (hl:Lents C σ args args') (hst:∀ w F F',View.le F F'→B w F→B w F') (h:Cto B gl P f args' [] 0 (.sl 0) [(0,.row T n rows)] 1)
  (hr:∀ r∈rows,∀ av∈r,∃ z,av=.sc z) (hds:o.dst=some d) (hd:Nat.blt d C.N=true) (hq:σ.nk=q):WO P C o σ ((σ.new (.row T n rows)).put d (.sl q)):=by
 intro G a w ok N Q' hN
 obtain ⟨cs,ey,h1,h2⟩:=fnOf_of hf (ok.evr hy).2
 obtain ⟨e1,e2⟩:=ok.evl2 hx h1 h2 hcat
 obtain ⟨q1,q2⟩:=hl.at_
 have hF:G.F.le fun q=>w.cell? q:=fun p u x=>ok.fw p u x
 refine call_wp ho hc ey (h w ⟨fun q=>w.cell? q,fun _=>0,fun _=>0,fun _=>undef,fun _ _=>False⟩ _ (hst w _ _ hF (hB.1 w G.F ok.bel ok.f0)) (fun x hx=>(fpM_nil hx).elim)
  ⟨fun _ _ x=>x,fun k o hk=>(by cases hk),fun k o x hk=>(by cases hk),fun k o k2 o2 x hk=>(by cases hk),fun k o x p u hk=>(by cases hk)⟩ (by rw [e1,q1]) fun i av u p qq=>?_) fun e w1 ⟨v,G',he,hk,h3,h4,hO,hmy,hpin,hle,hbd,hR⟩=>?_
 ·obtain ⟨b,hb,hL⟩:=q2 i av p
  exact .pu _ _ (hL G a w ok u (e2 i b u hb qq))
 ·obtain ⟨_,_,g1,g2,g3⟩:=hO.ob 0 _ rfl
  obtain ⟨r1,vs,Φ,r2,r3,r4,r5,r6,r7,r8,r9⟩:=g3
  obtain ⟨ev,eo⟩:=hR.sl_of
  have hnew:∀ x,G'.fp 0 x→w.heap.size≤x:=fun x hx=>(hmy 0 _ x rfl hx).elim id fun z=>(fpM_nil z).elim
  have ok':=ok.newObj (w':=w1) (S:=fun _=>False) (b:=G'.b 0) (n:=n) (h:=G'.h 0) (φ:=G'.fp 0) (ob:=.row T n rows)
   ⟨hk.os,hk.tape,hk.output,hk.size,fun k hk' _=>hk.block k hk' fpM_nil⟩ (fun _ h=>h.elim) (fun _ _ _ _ _ h=>h) (fun _ _ _ h=>h)
   ⟨with_n,(fun g hg=>by rw [with_h] at hg;rw [with_b];exact g2 g hg),by
    rw [with_h,with_f]
    refine ⟨r1,vs,Φ,r2,r3,r4,r5,r6,r7,r8,fun i r r' j av u a b c d=>?_⟩
    obtain ⟨z,rfl⟩:=hr r (List.mem_of_getElem? a) av (List.mem_of_getElem? c)
    have:=r9 i r r' j _ u a b c d
    rw [show u=z from RP.sc_eq this]
    exact .sc _⟩ trivial (fun x hx=>⟨.inl (Nat.le_trans ok.bel.size (hnew x hx)),hO.my 0 _ x rfl hx,fun k o h1 h2=>by
     have:=(ok.my k o x h1 h2).2
     have:=hnew x hx
     omega,fun p u h1 h2=>by
     have:=cell_block (ok.fw p u h1)
     have:=hnew x hx
     omega⟩)
  refine ⟨v,he,?_⟩
  rw [hds]
  subst hq
  rw [ev] at eo ⊢
  exact hN _ _ _ (ok'.set (d:=some d) (av:=.sl σ.nk) (v:=G'.h 0) (with_sl eo) (.sl _ (Nat.lt_succ_self _)) fun x hx=>by cases hx;exact of_blt hd)
end
end
end Go.Proofs.YtaeelcfjkhfpkaaGreat
