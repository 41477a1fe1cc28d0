/- A walk that knows values as trees: a drawn region in which two operations do not wait for each other: one order or the other. -/
import Derived.Test.YtgelfflighgajaaGreatDoorRRtTq
set_option linter.unusedVariables false
set_option linter.unusedSimpArgs false
namespace Go.Proofs.YtgelfflighgajaaGreatDoor
open Go.RowKit
section
variable {P:Program} {C:Cx} {σ σ':St} {G G':Gh} {a:Act} {w w':World} {o:Oper} {d:Tmp} {ops:Array Oper} {rest:List Oper} {Q:Exit→St→Prop}
theorem flatten_take {α:Type} {n:Nat}:∀ (l:List (List α))(j:Nat),(∀ r∈l,r.length=n)→(l.take j).flatten=l.flatten.take (j*n)
 | [],j,_=>by simp
 | x::r,0,_=>by simp
 | x::r,j+1,h=>by
  have hx:=h x (by simp)
  have e1:x.take (j*n+n)=x:=List.take_of_length_le (by rw [hx];exact Nat.le_add_left _ _)
  rw [List.take_succ_cons,List.flatten_cons,List.flatten_cons,flatten_take r j fun y hy=>h y (by simp [hy]),Nat.succ_mul,List.take_append,hx,e1,Nat.add_sub_cancel]
theorem RowIs.pre {T n:Nat} {rows:List (List AV)} {A:Option Addr} {len cap:Nat} {φ:Nat→Prop} {X:Nat→Nat→(Nat→Prop)→AV→Value→Prop} (h:RowIs w T n rows (.slice A len cap) φ X) {j:Nat} (hj:j≤rows.length):RowIs w T n (rows.take j) (.slice A j cap) φ X:=by
 obtain ⟨hrl,vs,Φ,h4,h5,h7,hgf,hΦ,hΦd,h8,h6⟩:=h
 have hvl:∀ r∈vs,r.length=n:=by
  intro r' hr'
  obtain ⟨q,hq,rfl⟩:=List.getElem_of_mem hr'
  have:=h8 q rows[q] vs[q] (List.getElem?_eq_getElem (by omega)) (List.getElem?_eq_getElem hq)
  rw [this];exact hrl _ (List.getElem_mem _)
 have tk:∀ {α:Type} {l:List α} {i:Nat} {x:α},(l.take j)[i]?=some x→l[i]?=some x:=fun {α l i x} h=>by
  rw [List.getElem?_take] at h
  split at h
  ·exact h
  ·cases h
 have eo:(Value.slice A j cap).ownBlock=(Value.slice A len cap).ownBlock:=by cases A<;>rfl
 refine ⟨fun r hr=>hrl r (List.mem_of_mem_take hr),vs.take j,Φ,⟨?_,?_⟩,by simp [h5],fun r hr=>h7 r (List.mem_of_mem_take hr),by rw [eo];exact hgf,by rw [eo];exact hΦ,hΦd,fun i r r' a b=>h8 i r r' (tk a) (tk b),fun i r r' s av u a b=>h6 i r r' s av u (tk a) (tk b)⟩
 ·rw [flatten_len fun r hr=>hvl r (List.mem_of_mem_take hr)]
 ·have hl:(vs.take j).length=j:=by simp;omega
  rw [hl,flatten_take vs j hvl]
  rcases h4.2 with⟨e1,e2⟩|⟨g,cap',cur,e1,hb,hh,hnc,hcm,hcs,ht⟩
  ·cases e1
   refine .inl ⟨?_,by omega⟩
   rw [show j=0 by omega]
  ·cases e1
   refine .inr ⟨g,cap,cur,rfl,hb,hh,by omega,hcm,hcs,?_⟩
   rw [← ht,List.take_take]
   congr 1
   have:=Nat.mul_le_mul_right n (show j≤vs.length by omega)
   omega
theorem Tr.mv {t:Tmp} {q:Nat} {T':TypeId} {n:Nat} {rows:List (List AV)} (ht:look t σ.t=some (.sl q)) (hk:look q σ.M=some (.row T' n rows)):Tr C σ (((σ.drop q).new (.row T' n rows)).put t (.sl σ.nk)):=fun G a w ok=>by
 obtain ⟨hn',hg,hR⟩:=(ok.ob q _ hk).2.2
 have ok':=(ok.drop_ q).newObj (S:=fun _=>False) (w':=w) (b:=G.b q) (n:=n) (h:=G.h q) (φ:=G.fp q) (ob:=.row T' n rows)
  (Kept.refl _ w) (fun _ h=>h.elim) (fun _ _ _ _ _ h=>h) (fun _ _ _ h=>h)
  ⟨with_n,(fun g hgg=>by rw [with_h] at hgg;rw [with_b];exact hg g hgg),by rw [with_h,with_f];exact hR⟩ trivial (fun x hx=>⟨(ok.my q _ x hk hx).1,(ok.my q _ x hk hx).2,fun i oi hi h2=>(drop_look hi).1 (ok.dj i oi q _ x (drop_look hi).2 hk h2 hx),fun p u=>ok.dF q _ x p u hk hx⟩)
 refine ⟨_,ok'.reslot (av:=.sl q) ht (.sl _ (Nat.lt_succ_self _)) fun v hv=>?_⟩
 have hlt:q<σ.nk:=(ok.ob q _ hk).1
 have hv2:v=G.h q:=hv.sl_of.1.trans (if_neg (show ¬ q=σ.nk by omega))
 have h3:v.oneCell'=true:=hv.sl_of.2
 rw [hv2] at h3 ⊢
 exact with_sl h3
def opT:Op→Option TypeId
 | .slice T _ _ _ _=>some T
 | _=>none
def preV (P:Program)(σ:St):Op→Option (Nat×TypeId×Nat×List (List AV)×Int)
 | .slice T x none (some y) none =>
  match P.underlying T,σ.ev x,σ.ev y with
  | some (.slice e),some (.sl k),some (.sc (.int _ j)) =>
   match sizeB P e,look k σ.M with
   | some m,some (.row T' n rows)=>bif Nat.beq m n then some (k,T',n,rows,j) else none
   | _,_=>none
  | _,_,_=>none
 | _=>none
theorem WO.pre {q:Nat} {T':TypeId} {n:Nat} {rows:List (List AV)} {j:Int} (hd:dstB C.N o=some d) (h:preV P σ o.op=some (q,T',n,rows,j)) (hj:0≤j∧j≤rows.length):WO P C o σ (((σ.drop q).new (.row T' n (rows.take j.toNat))).put d (.sl σ.nk)):=by
 intro G a w ok N Q' hN
 obtain ⟨_,hds,hdb⟩:=dstB_of hd
 unfold preV at h
 split at h
 ·rename_i T x y ho
  split at h
  ·rename_i e k kj j' hT hx hy
   split at h
   ·rename_i m T2 n' rows' hm hk
    cases hb:Nat.beq m n' with
    | false=>rw [hb] at h;cases h
    | true =>
     rw [hb] at h
     cases h
     obtain rfl:=Nat.eq_of_beq_eq_true hb
     obtain ⟨hn',hg,hR⟩:=(ok.ob q _ hk).2.2
     obtain ⟨A,c,hv⟩:=hR.len
     have ex:a.eval x=.slice A rows.length c:=(ok.evr hx).2.sl_of.1.trans hv
     have hcap:rows.length≤c:=by
      obtain ⟨_,vs,Φ,h4,h5,_⟩:=hR
      rcases h4.2 with ⟨e1,e2⟩|⟨g,cap,cur,e1,_,_,hnc,_⟩
      ·omega
      ·rw [hv] at e1;injection e1 with a1 a2 a3;omega
     rw [hv] at hg hR
     have hR':=hR.pre (j:=j.toNat) (by omega)
     have hrun:=run_sliceS (P:=P) hT hm A rows.length c none (some (a.eval y)) 0 j w (.inr ⟨rfl,rfl⟩) (.inl ⟨kj,by rw [ok.evs hy]⟩) ⟨Int.le_refl 0,hj.1,hj.2⟩ hcap
     have hA:(if c=(0:Int).toNat then A else A.map (·.add ((0:Int).toNat*m)))=A:=by
      simp only [Int.toNat_zero,Nat.zero_mul,add_zero']
      split
      ·rfl
      ·cases A<;>rfl
     rw [hA] at hrun
     simp only [Int.toNat_zero,Nat.sub_zero] at hrun
     have ok':=(ok.drop_ q).newObj (S:=fun _=>False) (w':=w) (b:=G.b q) (n:=m) (h:=.slice A j.toNat c) (φ:=G.fp q) (ob:=.row T' m (rows.take j.toNat))
      (Kept.refl _ w) (fun _ h=>h.elim) (fun _ _ _ _ _ h=>h) (fun _ _ _ h=>h)
      ⟨with_n,(fun g hgg=>by
       rw [with_h] at hgg;rw [with_b]
       refine hg g ?_
       rw [show (Value.slice A rows.length c).ownBlock=(Value.slice A j.toNat c).ownBlock by cases A<;>rfl,hgg]),by rw [with_h,with_f];exact hR'⟩ trivial (fun x hx=>⟨(ok.my q _ x hk hx).1,(ok.my q _ x hk hx).2,fun i oi hi h2=>(drop_look hi).1 (ok.dj i oi q _ x (drop_look hi).2 hk h2 hx),fun p u=>ok.dF q _ x p u hk hx⟩)
     unfold Oper.wp execOp
     have hsa:(Instr.sliceAt T (.slice A rows.length c) none (some (a.eval y)) none).run P w=.ok (.slice A j.toNat c) w:=by
      unfold Instr.sliceAt
      rw [Sem.run_bind,run_underlying hT w];exact hrun
     simp only [ho,ex,Option.map_none,Option.map_some,Sem.run_bind,hsa,Sem.run_pure,Result.andThen_ok,Oper.upon]
     rw [hds]
     exact hN _ _ _ (ok'.set (d:=some d) (av:=.sl σ.nk) (with_sl rfl) (.sl _ (Nat.lt_succ_self _)) fun x hx=>by cases hx;exact of_blt hdb)
   ·cases h
  ·cases h
 ·cases h
theorem WL.pre {q:Nat} {T':TypeId} {n:Nat} {rows:List (List AV)} {j:Int} {t:List (Nat×AV)} {M M':List (Nat×AO)} {nk:Nat} (hd:dstB C.N o=some d) (h:preV P ⟨t,M,nk⟩ o.op=some (q,T',n,rows,j)) (hM:remS q M=some M') (hj:0≤j∧j≤rows.length)
  (k:WL P C ops rest ⟨(d,.sl nk)::t,(nk,.row T' n (rows.take j.toNat))::M',nk+1⟩ Q):WL P C ops (o::rest) ⟨t,M,nk⟩ Q:=by
 rw [remS_eq hM] at k
 exact WL.op (dstB_of hd).1 (WO.pre hd h hj) k
theorem Ok.putNo (h:Ok C σ G a w) {d:Tmp} (hd:look d σ.t=none)(v:Value):Ok C σ G (a.put (some d) v) w:=by
 refine⟨?_,h.df,?_,h.bel,h.fw,h.f0,h.f1,h.ob,h.my,h.dj,h.dF⟩
 ·show (a.tmps.setIfInBounds d v).size=C.N
  rw [Array.size_setIfInBounds];exact h.sz
 ·intro i x hx
  show i<C.N∧Bd σ.nk x∧R G x ((a.tmps.setIfInBounds d v).getD i undef)
  have hne:d≠i:=fun e=>by subst e;rw [hd] at hx;cases hx
  have e:(a.tmps.setIfInBounds d v).getD i undef=a.tmps.getD i undef:=by
   simp only [Array.getD_eq_getD_getElem?,Array.getElem?_setIfInBounds_ne hne]
  rw [e];exact h.tm i x hx
theorem zeroCells_one(z:Value)(n:Nat):(Builtin.zeroCells #[z] n).toList=List.replicate n z:=by
 apply List.ext_getElem?
 intro i
 by_cases h:i<n
 ·simp [Builtin.zeroCells,h,Nat.mod_one]
 ·simp [Builtin.zeroCells,h]
theorem RowIs.clr {T:Nat} {rows:List (List AV)} {F:View} {g cap:Nat} {φ:Nat→Prop} {z:Value} (hz:z.oneCell'=true) (h:RowIs w T 1 rows (.slice (some ⟨g,0,none⟩) rows.length cap) φ (XP F)) {i:Nat} (hi:i<rows.length) :
  ∃ cur,w.heap[g]?=some (.cells cur T (0,0))∧rows.length≤cur.size∧φ g ∧
   RowIs (w.setRow g (cur.toList.take i++List.replicate (rows.length-i) z++cur.toList.drop (i+(rows.length-i))).toArray) T 1 (rows.take i++List.replicate (rows.length-i) [.sc z]) (.slice (some ⟨g,0,none⟩) rows.length cap) φ (XP F):=by
 obtain ⟨hrl,vs,Φ,h4,h5,h7,hgf,hΦ,hΦd,h8,h6⟩:=h
 have hvl:∀ r∈vs,r.length=1:=by
  intro r' hr'
  obtain ⟨q,hq,rfl⟩:=List.getElem_of_mem hr'
  have:=h8 q rows[q] vs[q] (List.getElem?_eq_getElem (by omega)) (List.getElem?_eq_getElem hq)
  rw [this];exact hrl _ (List.getElem_mem _)
 rcases h4.2 with⟨e1,e2⟩|⟨g',cap',cur,e1,hb,hh,hnc,hcm,hcs,ht⟩
 ·cases e1
 ·injection e1 with a1 a2 a3
  injection a1 with a1
  injection a1 with a1
  subst a1 a3
  rw [Nat.mul_one] at hcs ht
  refine ⟨cur,hh,by omega,hgf g rfl,?_⟩
  have hfl:(vs.take i++List.replicate (rows.length-i) [z]).flatten=cur.toList.take i++List.replicate (rows.length-i) z:=by
   rw [List.flatten_append,flatten_take vs i hvl,Nat.mul_one,← ht,List.take_take,show min i vs.length=i by omega]
   congr 1
   have:∀ n:Nat,(List.replicate n [z]).flatten=List.replicate n z:=fun n=>by
    induction n with
    | zero=>rfl
    | succ n ih=>rw [List.replicate_succ,List.flatten_cons,ih,List.replicate_succ];rfl
   exact this _
  have hlen:(vs.take i++List.replicate (rows.length-i) [z]).length=rows.length:=by simp;omega
  have hlr:(rows.take i++List.replicate (rows.length-i) [AV.sc z]).length=rows.length:=by simp;omega
  have part:∀ {α:Type} {l:List α} {m:Nat} {y x:α} {q:Nat},i≤l.length→(l.take i++List.replicate m y)[q]?=some x→(q<i∧l[q]?=some x)∨(i≤q∧x=y):=fun {α l m y x q} hl hq=>by
   by_cases e:q<i
   ·rw [List.getElem?_append_left (by simp;omega),List.getElem?_take_of_lt e] at hq
    exact .inl ⟨e,hq⟩
   ·rw [List.getElem?_append_right (by simp;omega)] at hq
    exact .inr ⟨by omega,List.eq_of_mem_replicate (List.mem_of_getElem? hq)⟩
  refine ⟨fun r hr=>?_,vs.take i++List.replicate (rows.length-i) [z],fun q s x=>q<i∧Φ q s x,⟨?_,.inr ⟨g,cap,_,?_,hb,setRow_heap w _ _ _ _ _ hh,by omega,hcm,?_,?_⟩⟩,by rw [hlen,hlr],fun r hr u hu=>?_,hgf,fun q s x hx=>hΦ q s x hx.2,fun q s q' s' x h1 h2=>hΦd q s q' s' x h1.2 h2.2,fun q r r' a b=>?_,fun q r r' s av u a b c e=>?_⟩
  ·rcases List.mem_append.1 hr with hr|hr
   ·exact hrl r (List.mem_of_mem_take hr)
   ·rw [List.eq_of_mem_replicate hr];rfl
  ·rw [flatten_len (size:=1) fun r hr=>?_]
   rcases List.mem_append.1 hr with hr|hr
   ·exact hvl r (List.mem_of_mem_take hr)
   ·rw [List.eq_of_mem_replicate hr];rfl
  ·rw [hlen]
  ·simp;omega
  ·rw [hlen,Nat.mul_one,hfl]
   have hl2:(cur.toList.take i++List.replicate (rows.length-i) z).length=rows.length:=by simp;omega
   simp only []
   rw [List.take_append,hl2,List.take_of_length_le (by omega),Nat.sub_self,List.take_zero,List.append_nil]
  ·rcases List.mem_append.1 hr with hr|hr
   ·exact h7 r (List.mem_of_mem_take hr) u hu
   ·rw [List.eq_of_mem_replicate hr,List.mem_singleton] at hu;subst hu;exact hz
  ·rcases part (by omega) a with⟨a1,a2⟩|⟨a1,a2⟩
   ·rcases part (by omega) b with⟨b1,b2⟩|⟨b1,b2⟩
    ·exact h8 q r r' a2 b2
    ·omega
   ·rcases part (by omega) b with⟨b1,b2⟩|⟨b1,b2⟩
    ·omega
    ·subst a2 b2;rfl
  ·rcases part (by omega) a with⟨a1,a2⟩|⟨a1,a2⟩
   ·rcases part (by omega) b with⟨b1,b2⟩|⟨b1,b2⟩
    ·exact h6 q r r' s av u a2 b2 c e
    ·omega
   ·rcases part (by omega) b with⟨b1,b2⟩|⟨b1,b2⟩
    ·omega
    ·subst a2 b2
     cases s with
     | zero=>cases c;cases e;exact .sc _
     | succ s=>simp at c
def endV (P:Program)(σ:St):Op→Option (Nat×TypeId×List (List AV)×Int×Value)
 | .slice T x (some y) none none =>
  match P.underlying T,σ.ev x,σ.ev y with
  | some (.slice e),some (.sl k),some (.sc (.int _ j)) =>
   match sizeB P e,look k σ.M,(P.info? e).bind (·.zero) with
   | some 1,some (.row T' 1 rows),some z=>bif z.oneCell' then some (k,T',rows,j,z) else none
   | _,_,_=>none
  | _,_,_=>none
 | _=>none
theorem wo_rem_ok {σ:St} {k:Nat} {ob:AO} (ok':Ok C (σ.upd k ob) G a w):Ok C ⟨σ.t,(k,ob)::rem k σ.M,σ.nk⟩ G a w:=by
 have hl:∀ i,look i ((k,ob)::rem k σ.M)=look i ((k,ob)::σ.M):=fun i=>by
  by_cases e:i=k
  ·subst e;rw [look_set_same,look_set_same]
  ·rw [look_set_other e,look_set_other e,look_rem,if_neg e]
 exact ⟨ok'.sz,ok'.df,ok'.tm,ok'.bel,ok'.fw,ok'.f0,ok'.f1,fun i x hx=>ok'.ob i x ((hl i).symm.trans hx),fun i x y hx=>ok'.my i x y ((hl i).symm.trans hx),fun i x i' x' y hx hx'=>ok'.dj i x i' x' y ((hl i).symm.trans hx) ((hl i').symm.trans hx'),fun i x y p u hx=>ok'.dF i x y p u ((hl i).symm.trans hx)⟩
theorem WL.clr {o1 o2:Oper} {d:Tmp} {T:TypeId} {q:Nat} {T':TypeId} {rows:List (List AV)} {j:Int} {z:Value} {t:List (Nat×AV)} {M M':List (Nat×AO)} {nk:Nat} (hd:dstB C.N o1=some d) (h:endV P ⟨t,M,nk⟩ o1.op=some (q,T',rows,j,z)) (ho1:opT o1.op=some T) (hl:look d t=none)
  (hg2:o2.guard=none) (hd2:o2.dst=none) (ho2:o2.op=.call { callee:=.builtin .clear,args:=#[.tmp d],argTypes:=#[T] }) (hM:remS q M=some M') (hj:0≤j∧j≤rows.length)
  (k:WL P C ops rest ⟨t,(q,.row T' 1 (rows.take j.toNat++List.replicate (rows.length - j.toNat) [.sc z]))::M',nk⟩ Q):WL P C ops (o1::o2::rest) ⟨t,M,nk⟩ Q:=by
 rw [remS_eq hM] at k
 obtain ⟨hg1,hds,hdb⟩:=dstB_of hd
 intro G a w ok
 refine wpList_plain hg1 fun K hK=>?_
 unfold endV at h
 split at h
 ·rename_i T0 x y ho
  rw [ho] at ho1
  obtain rfl:T0=T:=Option.some.inj ho1
  split at h
  ·rename_i e k0 kj j' hT hx hy
   split at h
   ·rename_i T2 rows' z' hm hk hz
    cases hb:z'.oneCell' with
    | false=>rw [hb] at h;cases h
    | true =>
     rw [hb] at h
     cases h
     obtain ⟨hn',hg,hR⟩:=(ok.ob q _ hk).2.2
     obtain ⟨A,c,hv⟩:=hR.len
     have ex:a.eval x=.slice A rows.length c:=(ok.evr hx).2.sl_of.1.trans hv
     have hcap:rows.length≤c:=by
      obtain ⟨_,vs,Φ,h4,h5,_⟩:=hR
      rcases h4.2 with ⟨e1,e2⟩|⟨g,cap,cur,e1,_,_,hnc,_⟩
      ·omega
      ·rw [hv] at e1;injection e1 with a1 a2 a3;omega
     have hrun:=run_sliceS (P:=P) hT hm A rows.length c (some (a.eval y)) none j rows.length w (.inl ⟨kj,by rw [ok.evs hy]⟩) (.inr ⟨rfl,rfl⟩) ⟨hj.1,hj.2,Int.le_refl _⟩ hcap
     rw [Int.toNat_natCast,Nat.mul_one] at hrun
     have hsa:(Instr.sliceAt T0 (.slice A rows.length c) (some (a.eval y)) none none).run P w=.ok (.slice (if c=j.toNat then A else A.map (·.add j.toNat)) (rows.length - j.toNat) (c - j.toNat)) w:=by
      unfold Instr.sliceAt
      rw [Sem.run_bind,run_underlying hT w];exact hrun
     unfold Oper.wp execOp
     simp only [ho,ex,Option.map_none,Option.map_some,Sem.run_bind,hsa,Sem.run_pure,Result.andThen_ok,Oper.upon]
     rw [hds]
     refine hK _ _ ?_
     obtain ⟨v1,hv1⟩:∃ v1,(Value.slice (if c=j.toNat then A else A.map (·.add j.toNat)) (rows.length - j.toNat) (c - j.toNat))=v1:=⟨_,rfl⟩
     rw [hv1]
     have ok1:=ok.putNo (d:=d) hl v1
     have hev:(a.put (some d) v1).eval (.tmp d)=v1:=by
      show (a.tmps.setIfInBounds d v1).getD d undef=v1
      have hlt:d < a.tmps.size:=by rw [ok.sz];exact of_blt hdb
      simp [Array.getD_eq_getD_getElem?,hlt]
     refine wpList_plain hg2 fun K2 hK2=>?_
     have fin:∀ (w2:World) G2,Ok C ⟨t,(q,.row T' 1 (rows.take j.toNat++List.replicate (rows.length - j.toNat) [.sc z]))::rem q M,nk⟩ G2 (a.put (some d) v1) w2→(Builtin.clear_ #[T0] o2.type #[v1]).run P w=.ok (.tuple #[]) w2→o2.wp P (a.put (some d) v1) w K2 (Post C Q):=fun w2 G2 ok2 hr=>by
      unfold Oper.wp execOp
      have hargs:(#[Operand.tmp d]:Array Operand).map (a.put (some d) v1).eval=#[v1]:=by simp [hev]
      simp only [ho2,resolve,invoke,builtin,Sem.run_bind,Sem.run_pure,Result.andThen_ok,hargs,hr,Oper.upon]
      rw [hd2]
      exact hK2 _ _ (k G2 _ w2 ok2)
     by_cases hlt:j.toNat < rows.length
     ·obtain ⟨g,hgA⟩:∃ g,A=some ⟨g,0,none⟩:=by
       obtain ⟨_,vs,Φ,h4,h5,_⟩:=hR
       rcases h4.2 with ⟨e1,e2⟩|⟨g,cap,cur,e1,_⟩
       ·omega
       ·rw [hv] at e1;injection e1 with a1 a2 a3;exact ⟨g,a1⟩
      subst hgA
      rw [hv] at hR hg
      obtain ⟨cur,hh,hcs,hφ,hR2⟩:=hR.clr hb hlt
      have hgb:g=G.b q:=hg g rfl
      rw [if_neg (by omega)] at hv1
      have hadd:(Option.map (fun x:Addr=>x.add j.toNat) (some ⟨g,0,none⟩))=some (⟨g,j.toNat,none⟩:Addr):=by
       simp only [Option.map_some,add_flat,Nat.zero_add]
      rw [hadd] at hv1
      have hst:=run_storeCells_at P g j.toNat T' (List.replicate (rows.length - j.toNat) z) 0 cur w hh (by simp;omega) (fun v hv=>by rw [List.eq_of_mem_replicate hv];exact hb)
      rw [Nat.add_zero,List.length_replicate] at hst
      have hzz:∃ i,P.info? e=some i∧i.zero=some z:=by
       cases hi:P.info? e with
       | none=>simp [hi] at hz
       | some i=>exact ⟨i,rfl,by simpa [hi] using hz⟩
      obtain ⟨i0,hi0,hz0⟩:=hzz
      have hzc:z.cells=#[z]:=by cases z<;>first|rfl|cases hb
      obtain ⟨cs,hcs2⟩:∃ cs,(cur.toList.take j.toNat++List.replicate (rows.length - j.toNat) z++cur.toList.drop (j.toNat+(rows.length - j.toNat))).toArray=cs:=⟨_,rfl⟩
      rw [hcs2] at hst hR2
      refine fin (w.setRow g cs) G (wo_rem_ok (ok1.writeG (σ:=⟨t,M,nk⟩) (ob':=.row T' 1 (rows.take j.toNat++List.replicate (rows.length - j.toNat) [.sc z])) hk (by exact hφ) (kept_setRow w g cs) ⟨hn',?_,?_⟩ trivial)) ?_
      ·rw [hv];exact hg
      ·rw [hv];exact hR2
      ·subst hv1
       obtain ⟨m,hm0⟩:∃ m,rows.length - j.toNat=m+1:=⟨rows.length - j.toNat - 1,by omega⟩
       rw [hm0] at hst ⊢
       simp [Builtin.clear_,run_underlying hT,zeroValue,typeInfo,hi0,hz0,hzc,zeroCells_one,hst]
     ·have e0:rows.length - j.toNat=0:=by omega
      have et:rows.take j.toNat++List.replicate (rows.length - j.toNat) [AV.sc z]=rows:=by rw [e0,List.take_of_length_le (by omega)];simp
      refine fin w G ?_ ?_
      ·rw [et]
       exact wo_rem_ok (σ:=⟨t,M,nk⟩) (k:=q) (ob:=.row T' 1 rows) (ok1.reob hk ⟨(ok.ob q _ hk).1,trivial,hn',hg,hR⟩)
      ·rw [← hv1,e0]
       split<;>(cases A<;>simp [Builtin.clear_,run_underlying hT])
   ·cases h
  ·cases h
 ·cases h
end
end Go.Proofs.YtgelfflighgajaaGreatDoor
namespace Go.Proofs.YtgelfflighgajaaGreatDoor
open Go.RowKit
section
variable {B:World→View→Prop} {gl:Nat} {P:Program} {C:Cx} {σ:St} {o:Oper} {d:Tmp} {ops:Array Oper} {rest:List Oper} {Q:Exit→St→Prop} {mem:List Bool} {Mc:List (Nat×AO)} {nk0 k:Nat}
theorem trM_same {σ σ':St} (h:σ'.M=σ.M) {ρ:Nat→Nat} {nk:Nat}:∀ {M:List (Nat×AO)},TrM σ ρ nk M→TrM σ' ρ nk M
 | [],_=>trivial
 | x::r,⟨h1,h2⟩=>⟨by rw [h];exact h1,trM_same h h2⟩
theorem DMK.ct (hB:Holds B gl C) {f:FuncId} {args args':List AV} {res res':AV} {M M' M2:List (Nat×AO)} {nk nk' n2:Nat} (ks:List Nat) (hd:wrB mem C.N k o=some d) (he:calE σ o.op=some (f,args')) (hc:∀ vs w,(callFunc f vs).run P w=.ok (.enter f vs) w)
  (h:Cto B gl P f args M nk res M' nk') (hks:ksB ks nk σ.nk=true) (ha:args.map (AV.ren (rhoC ks nk σ.nk))=args') (hp:args.all (AV.inn nk)=true) (hM:TrM σ (rhoC ks nk σ.nk) nk M)
  (hq:(Nat.ble nk nk' && M'.all (fun x=>x.2.inn nk') && M'.all (fun x=>Nat.blt x.1 nk') && res.inn nk')=true) (hr:res.ren (rhoC ks nk σ.nk)=res') (hM2:renM (rhoC ks nk σ.nk) M'++remL ks σ.M=M2) (hn2:σ.nk+(nk'-nk)=n2) (hs:msSub Mc M2)
  (r:DMK P C ops mem Mc nk0 (k+1) rest ⟨(d,res')::σ.t,M2,n2⟩ Q):DMK P C ops mem Mc nk0 k (o::rest) σ Q:=by
 subst hM2 hn2
 obtain ⟨a,b,c,e⟩:=wrB_of hd
 simp only [Bool.and_eq_true] at hq
 unfold calE at he
 split at he
 ·rename_i y xs ts ho
  split at he
  ·rename_i fv args0 hy hx
   split at he
   ·rename_i f' caps hf
    cases he
    refine DMK.wr a b (Nat.ble_eq_true_of_le (Nat.le_add_right _ _)) hs ⟨c,fun t H=>?_⟩ r
    have hmem:∀ q∈y::xs,q∈o.op.operands.toList:=fun q hq=>by rw [ho];simp [Op.operands,Call.operands] at hq ⊢;exact hq
    have:=WO.cto (P:=P) (C:=C) (σ:=⟨t,σ.M,σ.nk⟩) (xs:=⟨xs⟩) hB ks ho hc ((ev_agree H (hmem y (by simp))).trans hy) hf ((evs_agree H fun q hq=>hmem q (List.mem_cons_of_mem _ hq)).trans hx) rfl h hks ha hp (trM_same (σ:=σ) (σ':=⟨t,σ.M,σ.nk⟩) (ρ:=rhoC ks nk σ.nk) rfl hM) hq.1.1.1 hq.1.1.2 hq.1.2 hq.2 hr (by rw [b];exact e)
    rw [b] at this
    exact this
   ·cases he
  ·cases he
 ·cases he
theorem W.dm3 {id:Nat} {l:List Oper} (mem:List Bool)(ms:List Nat)(hm:P.follows .mixedOrders=true)(hB:Region.lexB .any l.toArray=true)(hch:chainB l.toArray mem=true)(hMc:msSub (onlyM σ.M ms) σ.M)
  (h:DMK P C l.toArray mem (onlyM σ.M ms) σ.nk 0 l σ Q):W P C (.region id l.toArray true) σ Q:=W.drawMK mem (onlyM σ.M ms) hm hB hch hMc h
theorem DK.bt {φ:Prop} [i:Decidable φ] (hc:isCmp o.op=true)(h:stepD P C.N ops σ o=some (d,.sc (.bool (decide φ))))(hφ:φ)(k:DK P C ops rest (σ.put d (.sc (.bool true))) Q):DK P C ops (o::rest) σ Q:=by
 rw [decide_eq_true hφ] at h
 exact DK.st h k
theorem DK.bf {φ:Prop} [i:Decidable φ] (hc:isCmp o.op=true)(h:stepD P C.N ops σ o=some (d,.sc (.bool (decide φ))))(hφ:¬ φ)(k:DK P C ops rest (σ.put d (.sc (.bool false))) Q):DK P C ops (o::rest) σ Q:=by
 rw [decide_eq_false hφ] at h
 exact DK.st h k
end
end Go.Proofs.YtgelfflighgajaaGreatDoor
namespace Go.Proofs.YtgelfflighgajaaGreatDoor
open Go.RowKit
def lendB (M:List (Nat×AO)):AV→AV
 | .sl k=>match look k M with
  | some (.row _ n rows)=>.ls n rows
  | _=>.sl k
 | av=>av
section
variable {B:World→View→Prop} {gl:Nat} {P:Program} {C:Cx} {ops:Array Oper} {rest:List Oper} {σ σ':St} {G G':Gh} {a:Act} {w w':World} {o:Oper} {d:Tmp} {Q:Exit→St→Prop}
theorem lend_rp (ok:Ok C σ G a w) {av:AV} {v:Value} (h:R G av v) (hp:(lendB σ.M av).pu2=true):RP (fun q=>w.cell? q) (lendB σ.M av) v:=by
 have hF:G.F.le fun q=>w.cell? q:=fun p u x=>ok.fw p u x
 have std:lendB σ.M av=av→RP (fun q=>w.cell? q) (lendB σ.M av) v:=fun e=>by
  rw [e] at hp ⊢
  exact RP.mono hF ((pu2_bd hp 0).rp h)
 cases av with
 | sl k =>
  cases hk:look k σ.M with
  | none=>exact std (by simp only [lendB,hk])
  | some ob =>
   cases ob with
   | row T n rows =>
    have e:lendB σ.M (.sl k)=.ls n rows:=by simp only [lendB,hk]
    rw [e,h.sl_of.1]
    obtain ⟨_,_,hob⟩:=ok.ob k _ hk
    have:=RowIs.fix (F':=fun q=>w.cell? q) id hob.2.2 (fun _ _=>rfl) fun i r j av u ψ _ _ _ x=>RP.mono hF x
    simpa using this
   | _=>exact std (by simp only [lendB,hk])
 | _=>exact std rfl
theorem WV.lend (hB:Holds B gl C) {f:FuncId} {xs:Array Operand} {ts:Array TypeId} {args args':List AV} {res:Value} (ho:o.op=.call { callee:=.value (.func f),args:=xs,argTypes:=ts }) (hc:∀ vs w,(callFunc f vs).run P w=.ok (.enter f vs) w)
  (hx:σ.evs xs.toList=some args) (hl:args.map (lendB σ.M)=args') (hp:args'.all AV.pu2=true) (hst:∀ w F F',View.le F F'→B w F→B w F') (h:Ctg B P f args' (.sc res)):WV P C o σ (.sc res):=by
 intro G a w ok N Q' hN
 obtain ⟨e1,e2⟩:=ok.evl hx
 subst hl
 have hF:G.F.le fun q=>w.cell? q:=fun p u x=>ok.fw p u x
 have hcalls:=h w (fun q=>w.cell? q) (xs.toList.map a.eval) (hst w _ _ hF (hB.1 w G.F ok.bel ok.f0)) (fun _ _ x=>x) ⟨by rw [e1,List.length_map],fun i av u p q=>by
  rw [List.getElem?_map] at p
  cases hi:args[i]? with
  | none=>simp [hi] at p
  | some av0 =>
   simp only [hi,Option.map_some,Option.some.injEq] at p
   subst p
   exact lend_rp ok (e2 i av0 u hi q) (List.all_eq_true.1 hp _ (List.mem_of_getElem? (by rw [List.getElem?_map,hi];rfl)))⟩
 unfold Oper.wp execOp
 have ev:a.eval (.func f)=.func (.func f) #[] #[]:=rfl
 have e3:(#[]++xs.map a.eval++#[]:Array Value)=(xs.toList.map a.eval).toArray:=by apply Array.ext';simp
 simp only [ho,resolve,ev,Deferred.ofValue,invoke,Sem.run_bind,Sem.run_pure,Result.andThen_ok,hc,Oper.upon,e3]
 refine hcalls.mono fun e w1 ⟨v,F',he,hb,h1,h2,h3,h4⟩=>?_
 subst he
 have hv:=h4.sc_eq
 subst hv
 exact hN _ { G with F:=G.F } w1 (fun σ'' a'' ok''=>ok''.called hb (fun _ _ x=>x) (fun p u x=>by rw [hb.cell (cell_block (ok.fw p u x))];exact ok.fw p u x) (fun _ _ x=>.inl x)) (.pu _ _ (.sc _)) (RP.bd (F:=G.F) (.sc _) _)
theorem truST:∀ w F F',View.le F F'→truB w F→truB w F':=fun _ _ _ _ h=>h
end
end Go.Proofs.YtgelfflighgajaaGreatDoor
namespace Go.Proofs.YtgelfflighgajaaGreatDoor
open Go.RowKit
def onB:AV→Bool
 | .sc v=>v.oneCell'
 | .ls _ _=>true
 | _=>false
def lendP (M:List (Nat×AO)):AV→AV
 | .pt k 0 0=>match look k M with
  | some (.box _ cells)=>bif cells.all onB then .pr cells else .pt k 0 0
  | _=>.pt k 0 0
 | av=>lendB M av
def lendC (M:List (Nat×AO)):AV→AV
 | .fn f l=>.fn f (l.map (lendP M))
 | av=>lendP M av
section
variable {B:World→View→Prop} {gl:Nat} {P:Program} {C:Cx} {ops:Array Oper} {rest:List Oper} {σ σ':St} {G G':Gh} {a:Act} {w w':World} {o:Oper} {d:Tmp} {Q:Exit→St→Prop}
theorem onB_of {av:AV} {u:Value} (h:onB av=true)(r:R G av u):u.oneCell'=true∧RP G.F av u∧av.own=false:=by
 cases av with
 | sc v =>
  obtain rfl:=r.sc_eq
  exact⟨h,.sc _,rfl⟩
 | ls n rows =>
  have h2:RP G.F (.ls n rows) u:=(pu2_bd (av:=.ls n rows) rfl 0).rp r
  obtain⟨A,cap,ad,u',rfl,_⟩:=h2.ls_of
  exact⟨rfl,h2,rfl⟩
 | _=>cases h
theorem lendP_rp (ok:Ok C σ G a w) {av:AV} {v:Value} (h:R G av v) (hp:(lendP σ.M av).pu2=true):RP (fun q=>w.cell? q) (lendP σ.M av) v:=by
 have hF:G.F.le fun q=>w.cell? q:=fun p u x=>ok.fw p u x
 cases av with
 | pt k i j =>
  cases i with
  | succ i=>exact lend_rp ok h hp
  | zero =>
   cases j with
   | succ j=>exact lend_rp ok h hp
   | zero =>
    cases hk:look k σ.M with
    | none =>
     have e:lendP σ.M (.pt k 0 0)=.pt k 0 0:=by simp only [lendP,hk]
     rw [e] at hp;cases hp
    | some ob =>
     cases ob with
     | box T cells =>
      have e:lendP σ.M (.pt k 0 0)=bif cells.all onB then .pr cells else .pt k 0 0:=by simp only [lendP,hk]
      rw [e] at hp ⊢
      cases hc:cells.all onB with
      | false=>rw [hc] at hp;cases hp
      | true =>
       obtain ⟨p,rfl,h1,h2,h3⟩:=h.pt_of
       have hcell:∀ (j:Nat) av,cells[j]?=some av→∃ u,w.cell? (p.add j)=some u∧u.oneCell'=true∧RP G.F av u:=fun j av hj=>by
        have hb:=List.all_eq_true.1 hc av (List.mem_of_getElem? hj)
        have ho:av.own=false:=by cases av<;>first|rfl|cases hb
        obtain ⟨u,hu,hr,_⟩:=ok.cell (i:=0) (j:=0) (l:=cells) hk rfl hj h1 h2 h3 ho
        obtain ⟨q1,q2,_⟩:=onB_of hb hr
        exact ⟨u,hu,q1,q2⟩
       show RP _ (.pr cells) _
       refine .pr cells p (fun j=>(w.cell? (p.add j)).getD undef) (fun j av hj=>?_) (fun j av hj=>?_)
       ·obtain ⟨u,hu,q1,q2⟩:=hcell j av hj
        rw [hu];exact ⟨rfl,q1⟩
       ·obtain ⟨u,hu,q1,q2⟩:=hcell j av hj
        rw [hu];exact q2.mono hF
     | _ =>
      have e:lendP σ.M (.pt k 0 0)=.pt k 0 0:=by simp only [lendP,hk]
      rw [e] at hp;cases hp
 | _=>exact lend_rp ok h hp
theorem lendC_rp (ok:Ok C σ G a w) {av:AV} {v:Value} (h:R G av v) (hp:(lendC σ.M av).pu2=true):RP (fun q=>w.cell? q) (lendC σ.M av) v:=by
 cases av with
 | fn f l =>
  obtain ⟨cs,rfl,h1,h2⟩:=h.fn_of
  show RP _ (.fn f (l.map (lendP σ.M))) _
  refine .fn f _ cs (by rw [h1,List.length_map]) fun i av u a b=>?_
  rw [List.getElem?_map] at a
  cases hi:l[i]? with
  | none=>simp [hi] at a
  | some av0 =>
   simp only [hi,Option.map_some,Option.some.injEq] at a
   subst a
   refine lendP_rp ok (h2 i av0 u hi b) ?_
   have hall:(l.map (lendP σ.M)).all AV.pu00=true:=hp
   have h3:(lendP σ.M av0).pu00=true:=List.all_eq_true.1 hall _ (List.mem_of_getElem? (by rw [List.getElem?_map,hi];rfl))
   generalize lendP σ.M av0=q at h3 ⊢
   cases q<;>first|rfl|cases h3
 | _=>exact lendP_rp ok h hp
theorem WV.lendV (hB:Holds B gl C) {f:FuncId} {y:Operand} {fv:AV} {xs:Array Operand} {ts:Array TypeId} {args0 caps args args':List AV} {res:Value} (ho:o.op=.call { callee:=.value y,args:=xs,argTypes:=ts }) (hc:∀ vs w,(callFunc f vs).run P w=.ok (.enter f vs) w)
  (hy:σ.ev y=some fv) (hf:fnOf fv=some (f,caps)) (hx:σ.evs xs.toList=some args0) (hcat:args0++caps=args) (hl:args.map (lendC σ.M)=args') (hp:args'.all AV.pu2=true) (hst:∀ w F F',View.le F F'→B w F→B w F') (h:Ctg B P f args' (.sc res)):WV P C o σ (.sc res):=by
 intro G a w ok N Q' hN
 obtain ⟨cs,ey,h1,h2⟩:=fnOf_of hf (ok.evr hy).2
 obtain ⟨e1,e2⟩:=ok.evl2 hx h1 h2 hcat
 subst hl
 have hF:G.F.le fun q=>w.cell? q:=fun p u x=>ok.fw p u x
 refine call_wp ho hc ey (h w (fun q=>w.cell? q) _ (hst w _ _ hF (hB.1 w G.F ok.bel ok.f0)) (fun _ _ x=>x) ⟨by rw [e1,List.length_map],fun i av u p q=>?_⟩) fun e w1 ⟨v,F',he,hb,h1,h2,h3,h4⟩=>?_
 ·rw [List.getElem?_map] at p
  cases hi:args[i]? with
  | none=>simp [hi] at p
  | some av0 =>
   simp only [hi,Option.map_some,Option.some.injEq] at p
   subst p
   exact lendC_rp ok (e2 i av0 u hi q) (List.all_eq_true.1 hp _ (List.mem_of_getElem? (by rw [List.getElem?_map,hi];rfl)))
 ·have hv:=h4.sc_eq
  subst hv
  exact ⟨_,he,hN _ { G with F:=G.F } w1 (fun σ'' a'' ok''=>ok''.called hb (fun _ _ x=>x) (fun p u x=>by rw [hb.cell (cell_block (ok.fw p u x))];exact ok.fw p u x) (fun _ _ x=>.inl x)) (.pu _ _ (.sc _)) (RP.bd (F:=G.F) (.sc _) _)⟩
end
end Go.Proofs.YtgelfflighgajaaGreatDoor
namespace Go.Proofs.YtgelfflighgajaaGreatDoor
open Go.RowKit
section
variable {P:Program} {C:Cx} {σ:St} {o:Oper} {d:Tmp} {ops:Array Oper} {rest:List Oper} {Q:Exit→St→Prop} {mem:List Bool} {Mc:List (Nat×AO)} {nk0 k:Nat}
theorem DMK.ldr {rows:List (List AV)} {i j:Nat} {r:List AV} {av:AV} (hd:memB C.N ops mem Mc k nk0 σ.t o=some (d,true)) (h:ldrV P ⟨onlyT σ.t (o.looksAt ops),Mc,nk0⟩ o.op=some (rows,i,j)) (hi:rows[i]?=some r) (hj:r[j]?=some av) (ho2:av.own=false)
  (K:DMK P C ops mem Mc nk0 (k+1) rest (σ.put d av) Q):DMK P C ops mem Mc nk0 k (o::rest) σ Q:=DMK.v0 hd (ldrV_of h hi hj ho2) K
theorem DMK.vl {av:AV} (hd:memB C.N ops mem Mc k nk0 σ.t o=some (d,true)) (h:WV P C o ⟨onlyT σ.t (o.looksAt ops),Mc,nk0⟩ av)
  (K:DMK P C ops mem Mc nk0 (k+1) rest (σ.put d av) Q):DMK P C ops mem Mc nk0 k (o::rest) σ Q:=DMK.v0 hd h K
theorem DMK.ixs {q:Nat} {rows:List (List AV)} {z:Int} (hd:memB C.N ops mem Mc k nk0 σ.t o=some (d,true)) (h:ixsV P ⟨onlyT σ.t (o.looksAt ops),Mc,nk0⟩ o.op=some (q,rows,z)) (h0:0≤z∧z<rows.length)
  (K:DMK P C ops mem Mc nk0 (k+1) rest (σ.put d (.pt q z.toNat 0)) Q):DMK P C ops mem Mc nk0 k (o::rest) σ Q:=DMK.v0 hd (ixsV_of h h0.1 h0.2) K
end
end Go.Proofs.YtgelfflighgajaaGreatDoor
namespace Go.Proofs.YtgelfflighgajaaGreatDoor
open Go.RowKit
def tame:Op→Bool
 | .move _=>true
 | .assign _=>true
 | .alloc _=>true
 | .box _ _=>true
 | .load _ _=>true
 | .store _ _ _=>true
 | .fieldAddr _ _ _=>true
 | .field _ _ _=>true
 | .indexAddr _ _ _=>true
 | .index _ _ _=>true
 | _=>false
structure Laid (ops A:Array Oper)(π ρ:Nat→Nat)(i j:Nat):Prop where
 sz:A.size=ops.size
 lt:∀ p,p<ops.size→π p<ops.size
 inv:∀ p,p<ops.size→ρ (π p)=p
 ltr:∀ q,q<ops.size→ρ q<ops.size
 inr:∀ q,q<ops.size→π (ρ q)=q
 hi:i<ops.size
 hj:j<ops.size
 op:∀ (p:Nat)(o:Oper),ops[p]?=some o→∃ X:Array Edge,A[π p]?=some { o with after:=X }∧(∀ e∈X,Region.binds .any e=true→(∃ e'∈o.after,Region.binds .any e'=true∧e.on=π e'.on)∨(p=j∧e.on=π i)) ∧
  (∀ e'∈o.after,Region.binds .any e'=true→∃ e∈X,Region.binds .any e=true∧e.on=π e'.on)
 tm:∀ (p:Nat)(o:Oper),ops[p]?=some o→tame o.op=true∧o.guard=none∧∀ e∈o.after,e.on<ops.size
structure Agr (n:Nat)(π:Nat→Nat)(L LA:Array Bool):Prop where
 s1:L.size=n
 s2:LA.size=n
 at_:∀ p,p<n→LA.getD (π p) false=L.getD p false
end Go.Proofs.YtgelfflighgajaaGreatDoor
