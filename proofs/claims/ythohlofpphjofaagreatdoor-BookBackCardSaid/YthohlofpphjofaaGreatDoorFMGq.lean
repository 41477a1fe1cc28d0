/- A walk that knows values as trees: a drawn region in which two operations do not wait for each other: one order or the other. -/
import Derived.Test.YthohlofpphjofaaGreatDoorInjGq
set_option linter.unusedVariables false
set_option linter.unusedSimpArgs false
namespace Go.Proofs.YthohlofpphjofaaGreatDoor
theorem aed {p:Prop}(h:p:=by
 ·obtain ⟨u,hu,q1,q2⟩:=hcell j av hj
  rw [hu];exact q2.mono hF):p:=h
theorem ad4 {p:Prop}(h:p:=by
 unfold Instr.sliceAt
 rw [Sem.run_bind,run_underlying hT w];exact hrun):p:=h
theorem adJ {p:Prop}(h:p:=by
 have e:lendP σ.M (.pt k 0 0)=.pt k 0 0:=by simp only [lendP,hk]
 rw [e] at hp;cases hp):p:=h
theorem aiQ {p:Prop}(h:p:=by
 have:=WO.cto (P:=P) (C:=C) (σ:=⟨t,σ.M,σ.nk⟩) (xs:=⟨xs⟩) hB ks ho hc ((ev_agree H (hmem y (by simp))).trans hy) hf ((evs_agree H fun q hq=>hmem q (EG _ hq)).trans hx) rfl h hks ha hp (trM_same (σ:=σ) (σ':=⟨t,σ.M,σ.nk⟩) (ρ:=rhoC ks nk σ.nk) rfl hM) hq.1.1.1 hq.1.1.2 hq.1.2 hq.2 hr (by rw [b];exact e)
 rw [b] at this
 exact this):p:=h
section
open Go.RowKit
section
variable {P:Program} {C:Cx} {σ σ':St} {G G':Gh} {a:Act} {w w':World} {o:Oper} {d:Tmp} {ops:Array Oper} {rest:List Oper} {Q:Exit→St→Prop}
theorem flatten_take {α:Type} {n:Nat}:∀ (l:List (List α))(j:Nat),(∀ r∈l,r.length=n)→(l.take j).flatten=l.flatten.take (j*n)
 | [],j,_=>by simp
 | x::r,0,_=>by simp
 | x::r,j+1,h=>by
  have hx:=h x (by simp)
  have e1:x.take (j*n+n)=x:=lC aj
  rw [List.take_succ_cons,AA,AA,flatten_take r j fun y hy=>h y qV,I4,List.take_append,hx,e1,Nat.add_sub_cancel]
theorem RowIs.pre {T n:Nat} {rows:List (List AV)} {A:Option Addr} {len cap:Nat} {φ:Nat→Prop} {X:Nat→Nat→(Nat→Prop)→AV→Value→Prop} (h:RowIs w T n rows (.slice A len cap) φ X) {j:Nat} (hj:j≤rows.length):RowIs w T n (rows.take j) (.slice A j cap) φ X:=by
 obtain ⟨hrl,vs,Φ,h4,h5,h7,hgf,hΦ,hΦd,h8,h6⟩:=h
 have hvl:∀ r∈vs,r.length=n:=by
  intro r' hr'
  exact aff
 have tk:∀ {α:Type} {l:List α} {i:Nat} {x:α},(l.take j)[i]?=some x→l[i]?=some x:=fun {α l i x} h=>by
  grind
 have eo:(Value.slice A j cap).ownBlock=(Value.slice A len cap).ownBlock:=by cases A<;>rfl
 refine ⟨fun r hr=>hrl r (EY hr),vs.take j,Φ,⟨?_,?_⟩,by simp [h5],fun r hr=>h7 r (EY hr),by rw [eo];exact hgf,by rw [eo];exact hΦ,hΦd,fun i r r' a b=>h8 i r r' (tk a) (tk b),fun i r r' s av u a b=>h6 i r r' s av u (tk a) (tk b)⟩
 ·grind[flatten_len]
 ·have hl:(vs.take j).length=j:=by simp;omega
  rw [hl,flatten_take vs j hvl]
  rcases h4.2 with⟨e1,e2⟩|⟨g,cap',cur,e1,hb,hh,hnc,hcm,hcs,ht⟩
  all_goals grind[LD]
theorem Tr.mv {t:Tmp} {q:Nat} {T':TypeId} {n:Nat} {rows:List (List AV)} (ht:look t σ.t=some (.sl q)) (hk:look q σ.M=some (.row T' n rows)):Tr C σ (((σ.drop q).new (.row T' n rows)).put t (.sl σ.nk)):=fun G a w ok=>by
 obtain ⟨hn',hg,hR⟩:=(ok.ob q _ hk).2.2
 have ok':=(ok.drop_ q).newObj (S:=fun _=>False) (w':=w) (b:=G.b q) (n:=n) (h:=G.h q) (φ:=G.fp q) (ob:=.row T' n rows)
  (Kept.refl _ w) (fun _ h=>h.elim) (fun _ _ _ _ _ h=>h) (fun _ _ _ h=>h)
  ⟨with_n,(fun g hgg=>by simp_all[with_h,with_b]),by rw [with_h,with_f];exact hR⟩ trivial (fun x hx=>⟨(ok.my q _ x hk hx).1,(ok.my q _ x hk hx).2,fun i oi hi h2=>(drop_look hi).1 (ok.dj i oi q _ x (drop_look hi).2 hk h2 hx),fun p u=>ok.dF q _ x p u hk hx⟩)
 refine ⟨_,ok'.reslot (av:=.sl q) ht (.sl _ (ou _)) fun v hv=>?_⟩
 have hlt:q<σ.nk:=(ok.ob q _ hk).1
 have hv2:v=G.h q:=hv.sl_of.1.trans (if_neg (show ¬ q=σ.nk by omega))
 have h3:v.oneCell'=true:=hv.sl_of.2
 rw [hv2] at h3 ⊢
 exact with_sl h3
def opT:Op→Option TypeId
 | .slice T _ _ _ _=>some T
 | _=>none
def preV (P:Program)(σ:St):Op→Option (Nat×TypeId×Nat×List (List AV)×Int)
 | .slice T x none (some y) none =>
  match P.underlying T,σ.ev x,σ.ev y with
  | some (.slice e),some (.sl k),some (.sc (.int _ j)) =>
   match sizeB P e,look k σ.M with
   | some m,some (.row T' n rows)=>bif Nat.beq m n then some (k,T',n,rows,j) else none
   | _,_=>none
  | _,_,_=>none
 | _=>none
theorem WO.pre {q:Nat} {T':TypeId} {n:Nat} {rows:List (List AV)} {j:Int} (hd:dstB C.N o=some d) (h:preV P σ o.op=some (q,T',n,rows,j)) (hj:0≤j∧j≤rows.length):WO P C o σ (((σ.drop q).new (.row T' n (rows.take j.toNat))).put d (.sl σ.nk)):=by
 intro G a w ok N Q' hN
 obtain ⟨_,hds,hdb⟩:=dstB_of hd
 unfold preV at h
 split at h
 ·rename_i T x y ho
  split at h
  ·rename_i e k kj j' hT hx hy
   split at h
   ·rename_i m T2 n' rows' hm hk
    cases hb:Nat.beq m n' with
    | false=>rw [hb] at h;cases h
    | true =>
     rw [hb] at h
     cases h
     obtain rfl:=dQ hb
     obtain ⟨hn',hg,hR⟩:=(ok.ob q _ hk).2.2
     obtain ⟨A,c,hv⟩:=hR.len
     have ex:a.eval x=.slice A rows.length c:=(ok.evr hx).2.sl_of.1.trans hv
     have hcap:rows.length≤c:=by
      obtain ⟨_,vs,Φ,h4,h5,_⟩:=hR
      rcases h4.2 with ⟨e1,e2⟩|⟨g,cap,cur,e1,_,_,hnc,_⟩
      ·omega
      ·rw [hv] at e1;injection e1 with a1 a2 a3;omega
     rw [hv] at hg hR
     have hR':=hR.pre (j:=j.toNat) aj
     have hrun:=run_sliceS (P:=P) hT hm A rows.length c none (some (a.eval y)) 0 j w (.inr ⟨rfl,rfl⟩) (.inl ⟨kj,by rw [ok.evs hy]⟩) ⟨ni 0,hj.1,hj.2⟩ hcap
     have hA:(if c=(0:Int).toNat then A else A.map (·.add ((0:Int).toNat*m)))=A:=by
      simp only [Int.toNat_zero,uG,add_zero']
      split
      ·rfl
      ·cases A<;>rfl
     rw [hA] at hrun
     simp only [Int.toNat_zero,EW] at hrun
     have ok':=(ok.drop_ q).newObj (S:=fun _=>False) (w':=w) (b:=G.b q) (n:=m) (h:=.slice A j.toNat c) (φ:=G.fp q) (ob:=.row T' m (rows.take j.toNat))
      (Kept.refl _ w) (fun _ h=>h.elim) (fun _ _ _ _ _ h=>h) (fun _ _ _ h=>h)
      ⟨with_n,(fun g hgg=>by
       rw [with_h] at hgg;rw [with_b]
       refine hg g ?_
       rw [show (Value.slice A rows.length c).ownBlock=(Value.slice A j.toNat c).ownBlock by cases A<;>rfl,hgg]),by rw [with_h,with_f];exact hR'⟩ trivial (fun x hx=>⟨(ok.my q _ x hk hx).1,(ok.my q _ x hk hx).2,fun i oi hi h2=>(drop_look hi).1 (ok.dj i oi q _ x (drop_look hi).2 hk h2 hx),fun p u=>ok.dF q _ x p u hk hx⟩)
     refine fU ?_
     have hsa:(Instr.sliceAt T (.slice A rows.length c) none (some (a.eval y)) none).run P w=.ok (.slice A j.toNat c) w:=by
      exact ad4
     simp only [ho,ex,EX,kG,Sem.run_bind,hsa,Sem.run_pure,Result.andThen_ok,Oper.upon]
     exact afg
   ·cases h
  ·cases h
 ·cases h
theorem WL.pre {q:Nat} {T':TypeId} {n:Nat} {rows:List (List AV)} {j:Int} {t:List (Nat×AV)} {M M':List (Nat×AO)} {nk:Nat} (hd:dstB C.N o=some d) (h:preV P ⟨t,M,nk⟩ o.op=some (q,T',n,rows,j)) (hM:remS q M=some M') (hj:0≤j∧j≤rows.length)
  (k:WL P C ops rest ⟨(d,.sl nk)::t,(nk,.row T' n (rows.take j.toNat))::M',nk+1⟩ Q):WL P C ops (o::rest) ⟨t,M,nk⟩ Q:=by
 rw [remS_eq hM] at k
 exact WL.op (dstB_of hd).1 (WO.pre hd h hj) k
theorem Ok.putNo (h:Ok C σ G a w) {d:Tmp} (hd:look d σ.t=none)(v:Value):Ok C σ G (a.put (some d) v) w:=by
 refine⟨?_,h.df,?_,h.bel,h.fw,h.f0,h.f1,h.ob,h.my,h.dj,h.dF⟩
 ·exact adV
 ·intro i x hx
  show i<C.N∧Bd σ.nk x∧R G x ((a.tmps.setIfInBounds d v).getD i undef)
  have hne:d≠i:=fun e=>by simp_all
  have e:(a.tmps.setIfInBounds d v).getD i undef=a.tmps.getD i undef:=by
   simp_all
  rw [e];exact h.tm i x hx
theorem zeroCells_one(z:Value)(n:Nat):(Builtin.zeroCells #[z] n).toList=List.replicate n z:=by
 apply List.ext_getElem?
 grind[Builtin.zeroCells]
theorem RowIs.clr {T:Nat} {rows:List (List AV)} {F:View} {g cap:Nat} {φ:Nat→Prop} {z:Value} (hz:z.oneCell'=true) (h:RowIs w T 1 rows (.slice (some ⟨g,0,none⟩) rows.length cap) φ (XP F)) {i:Nat} (hi:i<rows.length) :
  ∃ cur,w.heap[g]?=some (.cells cur T (0,0))∧rows.length≤cur.size∧φ g ∧
   RowIs (w.setRow g (cur.toList.take i++List.replicate (rows.length-i) z++cur.toList.drop (i+(rows.length-i))).toArray) T 1 (rows.take i++List.replicate (rows.length-i) [.sc z]) (.slice (some ⟨g,0,none⟩) rows.length cap) φ (XP F):=by
 obtain ⟨hrl,vs,Φ,h4,h5,h7,hgf,hΦ,hΦd,h8,h6⟩:=h
 have hvl:∀ r∈vs,r.length=1:=by
  intro r' hr'
  exact aff
 rcases h4.2 with⟨e1,e2⟩|⟨g',cap',cur,e1,hb,hh,hnc,hcm,hcs,ht⟩
 ·cases e1
 ·injection e1 with a1 a2 a3
  injection a1 with a1
  injection a1 with a1
  subst a1 a3
  rw [EZ] at hcs ht
  refine ⟨cur,hh,by omega,hgf g rfl,?_⟩
  have hfl:(vs.take i++List.replicate (rows.length-i) [z]).flatten=cur.toList.take i++List.replicate (rows.length-i) z:=by
   rw [Ui,flatten_take vs i hvl,EZ,← ht,List.take_take,show min i vs.length=i by omega]
   congr 1
   have:∀ n:Nat,(List.replicate n [z]).flatten=List.replicate n z:=fun n=>by
    induction n with
    | zero=>rfl
    | succ n ih=>rw [Ls,AA,ih,Ls];rfl
   exact this _
  have hlen:(vs.take i++List.replicate (rows.length-i) [z]).length=rows.length:=by simp;omega
  have hlr:(rows.take i++List.replicate (rows.length-i) [AV.sc z]).length=rows.length:=by simp;omega
  have part:∀ {α:Type} {l:List α} {m:Nat} {y x:α} {q:Nat},i≤l.length→(l.take i++List.replicate m y)[q]?=some x→(q<i∧l[q]?=some x)∨(i≤q∧x=y):=fun {α l m y x q} hl hq=>by
   by_cases e:q<i
   ·rw [sS (by simp;omega),EC e] at hq
    exact .inl ⟨e,hq⟩
   ·rw [qL (by simp;omega)] at hq
    exact .inr ⟨by omega,oz (aY hq)⟩
  refine ⟨fun r hr=>?_,vs.take i++List.replicate (rows.length-i) [z],fun q s x=>q<i∧Φ q s x,⟨?_,.inr ⟨g,cap,_,?_,hb,setRow_heap w _ _ _ _ _ hh,by omega,hcm,?_,?_⟩⟩,by rw [hlen,hlr],fun r hr u hu=>?_,hgf,fun q s x hx=>hΦ q s x hx.2,fun q s q' s' x h1 h2=>hΦd q s q' s' x h1.2 h2.2,fun q r r' a b=>?_,fun q r r' s av u a b c e=>?_⟩
  ·rcases List.mem_append.1 hr with hr|hr
   ·exact hrl r (EY hr)
   ·rw [oz hr];rfl
  ·rw [flatten_len (size:=1) fun r hr=>?_]
   rcases List.mem_append.1 hr with hr|hr
   ·exact hvl r (EY hr)
   ·rw [oz hr];rfl
  ·rw [hlen]
  ·simp;omega
  ·rw [hlen,EZ,hfl]
   have hl2:(cur.toList.take i++List.replicate (rows.length-i) z).length=rows.length:=by simp;omega
   simp only []
   rw [List.take_append,hl2,lC (by omega),Eu,LU,mG]
  ·rcases List.mem_append.1 hr with hr|hr
   ·exact h7 r (EY hr) u hu
   ·rw [oz hr,vZ] at hu;subst hu;exact hz
  ·rcases part aj a with⟨a1,a2⟩|⟨a1,a2⟩
   ·rcases part aj b with⟨b1,b2⟩|⟨b1,b2⟩
    ·exact h8 q r r' a2 b2
    ·omega
   ·rcases part aj b with⟨b1,b2⟩|⟨b1,b2⟩
    ·omega
    ·subst a2 b2;rfl
  ·rcases part aj a with⟨a1,a2⟩|⟨a1,a2⟩
   ·rcases part aj b with⟨b1,b2⟩|⟨b1,b2⟩
    ·exact h6 q r r' s av u a2 b2 c e
    ·omega
   ·rcases part aj b with⟨b1,b2⟩|⟨b1,b2⟩
    ·omega
    ·subst a2 b2
     cases s with
     | zero=>cases c;cases e;exact .sc _
     | succ s=>simp at c
def endV (P:Program)(σ:St):Op→Option (Nat×TypeId×List (List AV)×Int×Value)
 | .slice T x (some y) none none =>
  match P.underlying T,σ.ev x,σ.ev y with
  | some (.slice e),some (.sl k),some (.sc (.int _ j)) =>
   match sizeB P e,look k σ.M,(P.info? e).bind (·.zero) with
   | some 1,some (.row T' 1 rows),some z=>bif z.oneCell' then some (k,T',rows,j,z) else none
   | _,_,_=>none
  | _,_,_=>none
 | _=>none
theorem wo_rem_ok {σ:St} {k:Nat} {ob:AO} (ok':Ok C (σ.upd k ob) G a w):Ok C ⟨σ.t,(k,ob)::rem k σ.M,σ.nk⟩ G a w:=by
 have hl:∀ i,look i ((k,ob)::rem k σ.M)=look i ((k,ob)::σ.M):=fun i=>by
  grind[look_set_same,look_set_other,look_rem]
 exact afa
theorem WL.clr {o1 o2:Oper} {d:Tmp} {T:TypeId} {q:Nat} {T':TypeId} {rows:List (List AV)} {j:Int} {z:Value} {t:List (Nat×AV)} {M M':List (Nat×AO)} {nk:Nat} (hd:dstB C.N o1=some d) (h:endV P ⟨t,M,nk⟩ o1.op=some (q,T',rows,j,z)) (ho1:opT o1.op=some T) (hl:look d t=none)
  (hg2:o2.guard=none) (hd2:o2.dst=none) (ho2:o2.op=.call { callee:=.builtin .clear,args:=#[.tmp d],argTypes:=#[T] }) (hM:remS q M=some M') (hj:0≤j∧j≤rows.length)
  (k:WL P C ops rest ⟨t,(q,.row T' 1 (rows.take j.toNat++List.replicate (rows.length - j.toNat) [.sc z]))::M',nk⟩ Q):WL P C ops (o1::o2::rest) ⟨t,M,nk⟩ Q:=by
 rw [remS_eq hM] at k
 obtain ⟨hg1,hds,hdb⟩:=dstB_of hd
 intro G a w ok
 refine wpList_plain hg1 fun K hK=>?_
 unfold endV at h
 split at h
 ·rename_i T0 x y ho
  rw [ho] at ho1
  obtain rfl:T0=T:=Option.some.inj ho1
  split at h
  ·rename_i e k0 kj j' hT hx hy
   split at h
   ·rename_i T2 rows' z' hm hk hz
    cases hb:z'.oneCell' with
    | false=>rw [hb] at h;cases h
    | true =>
     rw [hb] at h
     cases h
     obtain ⟨hn',hg,hR⟩:=(ok.ob q _ hk).2.2
     obtain ⟨A,c,hv⟩:=hR.len
     have ex:a.eval x=.slice A rows.length c:=(ok.evr hx).2.sl_of.1.trans hv
     have hcap:rows.length≤c:=by
      obtain ⟨_,vs,Φ,h4,h5,_⟩:=hR
      rcases h4.2 with ⟨e1,e2⟩|⟨g,cap,cur,e1,_,_,hnc,_⟩
      all_goals grind
     have hrun:=run_sliceS (P:=P) hT hm A rows.length c (some (a.eval y)) none j rows.length w (.inl ⟨kj,by rw [ok.evs hy]⟩) (.inr ⟨rfl,rfl⟩) ⟨hj.1,hj.2,ni _⟩ hcap
     rw [dB,EZ] at hrun
     have hsa:(Instr.sliceAt T0 (.slice A rows.length c) (some (a.eval y)) none none).run P w=.ok (.slice (if c=j.toNat then A else A.map (·.add j.toNat)) (rows.length - j.toNat) (c - j.toNat)) w:=by
      exact ad4
     refine fU ?_
     simp only [ho,ex,EX,kG,Sem.run_bind,hsa,Sem.run_pure,Result.andThen_ok,Oper.upon]
     rw [hds]
     refine hK _ _ ?_
     obtain ⟨v1,hv1⟩:∃ v1,(Value.slice (if c=j.toNat then A else A.map (·.add j.toNat)) (rows.length - j.toNat) (c - j.toNat))=v1:=⟨_,rfl⟩
     rw [hv1]
     have ok1:=ok.putNo (d:=d) hl v1
     have hev:(a.put (some d) v1).eval (.tmp d)=v1:=by
      show (a.tmps.setIfInBounds d v1).getD d undef=v1
      have hlt:d < a.tmps.size:=by rw [ok.sz];exact of_blt hdb
      simp [bV,hlt]
     refine wpList_plain hg2 fun K2 hK2=>?_
     have fin:∀ (w2:World) G2,Ok C ⟨t,(q,.row T' 1 (rows.take j.toNat++List.replicate (rows.length - j.toNat) [.sc z]))::rem q M,nk⟩ G2 (a.put (some d) v1) w2→(Builtin.clear_ #[T0] o2.type #[v1]).run P w=.ok (.tuple #[]) w2→o2.wp P (a.put (some d) v1) w K2 (Post C Q):=fun w2 G2 ok2 hr=>by
      refine fU ?_
      have hargs:(#[Operand.tmp d]:Array Operand).map (a.put (some d) v1).eval=#[v1]:=by simp [hev]
      simp only [ho2,resolve,invoke,builtin,Sem.run_bind,Sem.run_pure,Result.andThen_ok,hargs,hr,Oper.upon]
      rw [hd2]
      exact hK2 _ _ (k G2 _ w2 ok2)
     by_cases hlt:j.toNat < rows.length
     ·obtain ⟨g,hgA⟩:∃ g,A=some ⟨g,0,none⟩:=by
       obtain ⟨_,vs,Φ,h4,h5,_⟩:=hR
       rcases h4.2 with ⟨e1,e2⟩|⟨g,cap,cur,e1,_⟩
       ·omega
       ·rw [hv] at e1;injection e1 with a1 a2 a3;exact ⟨g,a1⟩
      subst hgA
      rw [hv] at hR hg
      obtain ⟨cur,hh,hcs,hφ,hR2⟩:=hR.clr hb hlt
      have hgb:g=G.b q:=hg g rfl
      rw [if_neg (by omega)] at hv1
      have hadd:(Option.map (fun x:Addr=>x.add j.toNat) (some ⟨g,0,none⟩))=some (⟨g,j.toNat,none⟩:Addr):=by
       simp only [kG,add_flat,mJ]
      rw [hadd] at hv1
      have hst:=run_storeCells_at P g j.toNat T' (List.replicate (rows.length - j.toNat) z) 0 cur w hh (by simp;omega) (fun v hv=>by rw [oz hv];exact hb)
      rw [vY,Et] at hst
      have hzz:∃ i,P.info? e=some i∧i.zero=some z:=by
       cases hi:P.info? e with
       | none=>simp [hi] at hz
       | some i=>exact ⟨i,rfl,by simpa [hi] using hz⟩
      obtain ⟨i0,hi0,hz0⟩:=hzz
      have hzc:z.cells=#[z]:=by cases z<;>first|rfl|cases hb
      obtain ⟨cs,hcs2⟩:∃ cs,(cur.toList.take j.toNat++List.replicate (rows.length - j.toNat) z++cur.toList.drop (j.toNat+(rows.length - j.toNat))).toArray=cs:=⟨_,rfl⟩
      rw [hcs2] at hst hR2
      refine fin (w.setRow g cs) G (wo_rem_ok (ok1.writeG (σ:=⟨t,M,nk⟩) (ob':=.row T' 1 (rows.take j.toNat++List.replicate (rows.length - j.toNat) [.sc z])) hk (by exact hφ) (kept_setRow w g cs) ⟨hn',?_,?_⟩ trivial)) ?_
      ·rw [hv];exact hg
      ·rw [hv];exact hR2
      ·subst hv1
       obtain ⟨m,hm0⟩:∃ m,rows.length - j.toNat=m+1:=⟨rows.length - j.toNat - 1,by omega⟩
       rw [hm0] at hst ⊢
       simp [Builtin.clear_,run_underlying hT,zeroValue,typeInfo,hi0,hz0,hzc,zeroCells_one,hst]
     ·have e0:rows.length - j.toNat=0:=by omega
      have et:rows.take j.toNat++List.replicate (rows.length - j.toNat) [AV.sc z]=rows:=by rw [e0,lC (by omega)];simp
      refine fin w G ?_ ?_
      ·rw [et]
       exact wo_rem_ok (σ:=⟨t,M,nk⟩) (k:=q) (ob:=.row T' 1 rows) (ok1.reob hk ⟨(ok.ob q _ hk).1,trivial,hn',hg,hR⟩)
      ·rw [← hv1,e0]
       split<;>(cases A<;>simp [Builtin.clear_,run_underlying hT])
   ·cases h
  ·cases h
 ·cases h
end
section
variable {B:World→View→Prop} {gl:Nat} {P:Program} {C:Cx} {σ:St} {o:Oper} {d:Tmp} {ops:Array Oper} {rest:List Oper} {Q:Exit→St→Prop} {mem:List Bool} {Mc:List (Nat×AO)} {nk0 k:Nat}
theorem trM_same {σ σ':St} (h:σ'.M=σ.M) {ρ:Nat→Nat} {nk:Nat}:∀ {M:List (Nat×AO)},TrM σ ρ nk M→TrM σ' ρ nk M
 | [],_=>trivial
 | x::r,⟨h1,h2⟩=>⟨by rw [h];exact h1,trM_same h h2⟩
theorem DMK.ct (hB:Holds B gl C) {f:FuncId} {args args':List AV} {res res':AV} {M M' M2:List (Nat×AO)} {nk nk' n2:Nat} (ks:List Nat) (hd:wrB mem C.N k o=some d) (he:calE σ o.op=some (f,args')) (hc:∀ vs w,(callFunc f vs).run P w=.ok (.enter f vs) w)
  (h:Cto B gl P f args M nk res M' nk') (hks:ksB ks nk σ.nk=true) (ha:args.map (AV.ren (rhoC ks nk σ.nk))=args') (hp:args.all (AV.inn nk)=true) (hM:TrM σ (rhoC ks nk σ.nk) nk M)
  (hq:(Nat.ble nk nk' && M'.all (fun x=>x.2.inn nk') && M'.all (fun x=>Nat.blt x.1 nk') && res.inn nk')=true) (hr:res.ren (rhoC ks nk σ.nk)=res') (hM2:renM (rhoC ks nk σ.nk) M'++remL ks σ.M=M2) (hn2:σ.nk+(nk'-nk)=n2) (hs:msSub Mc M2)
  (r:DMK P C ops mem Mc nk0 (k+1) rest ⟨(d,res')::σ.t,M2,n2⟩ Q):DMK P C ops mem Mc nk0 k (o::rest) σ Q:=by
 subst hM2 hn2
 obtain ⟨a,b,c,e⟩:=wrB_of hd
 simp only [dw] at hq
 unfold calE at he
 split at he
 ·rename_i y xs ts ho
  split at he
  ·rename_i fv args0 hy hx
   split at he
   ·rename_i f' caps hf
    cases he
    refine DMK.wr a b (nG (Jc _ _)) hs ⟨c,fun t H=>?_⟩ r
    have hmem:∀ q∈y::xs,q∈o.op.operands.toList:=fun q hq=>by rw [ho];simp [Op.operands,Call.operands] at hq ⊢;exact hq
    exact aiQ
   ·cases he
  ·cases he
 ·cases he
theorem W.dm3 {id:Nat} {l:List Oper} (mem:List Bool)(ms:List Nat)(hm:P.follows .mixedOrders=true)(hB:Region.lexB .any l.toArray=true)(hch:chainB l.toArray mem=true)(hMc:msSub (onlyM σ.M ms) σ.M)
  (h:DMK P C l.toArray mem (onlyM σ.M ms) σ.nk 0 l σ Q):W P C (.region id l.toArray true) σ Q:=W.drawMK mem (onlyM σ.M ms) hm hB hch hMc h
theorem DK.bt {φ:Prop} [i:Decidable φ] (hc:isCmp o.op=true)(h:stepD P C.N ops σ o=some (d,.sc (.bool (decide φ))))(hφ:φ)(k:DK P C ops rest (σ.put d (.sc (.bool true))) Q):DK P C ops (o::rest) σ Q:=by
 rw [fQ hφ] at h
 exact DK.st h k
theorem DK.bf {φ:Prop} [i:Decidable φ] (hc:isCmp o.op=true)(h:stepD P C.N ops σ o=some (d,.sc (.bool (decide φ))))(hφ:¬ φ)(k:DK P C ops rest (σ.put d (.sc (.bool false))) Q):DK P C ops (o::rest) σ Q:=by
 rw [dW hφ] at h
 exact DK.st h k
end
def lendB (M:List (Nat×AO)):AV→AV
 | .sl k=>match look k M with
  | some (.row _ n rows)=>.ls n rows
  | _=>.sl k
 | av=>av
section
variable {B:World→View→Prop} {gl:Nat} {P:Program} {C:Cx} {ops:Array Oper} {rest:List Oper} {σ σ':St} {G G':Gh} {a:Act} {w w':World} {o:Oper} {d:Tmp} {Q:Exit→St→Prop}
theorem lend_rp (ok:Ok C σ G a w) {av:AV} {v:Value} (h:R G av v) (hp:(lendB σ.M av).pu2=true):RP (fun q=>w.cell? q) (lendB σ.M av) v:=by
 have hF:G.F.le fun q=>w.cell? q:=fun p u x=>ok.fw p u x
 have std:lendB σ.M av=av→RP (fun q=>w.cell? q) (lendB σ.M av) v:=fun e=>by
  rw [e] at hp ⊢
  exact RP.mono hF ((pu2_bd hp 0).rp h)
 cases av with
 | sl k =>
  cases hk:look k σ.M with
  | none=>exact std (by simp only [lendB,hk])
  | some ob =>
   cases ob with
   | row T n rows =>
    have e:lendB σ.M (.sl k)=.ls n rows:=by simp only [lendB,hk]
    rw [e,h.sl_of.1]
    obtain ⟨_,_,hob⟩:=ok.ob k _ hk
    have:=RowIs.fix (F':=fun q=>w.cell? q) id hob.2.2 (fun _ _=>rfl) fun i r j av u ψ _ _ _ x=>RP.mono hF x
    exact jy
   | _=>exact std (by simp only [lendB,hk])
 | _=>exact std rfl
theorem truST:∀ w F F',View.le F F'→truB w F→truB w F':=fun _ _ _ _ h=>h
def sixV (P:Program) (σ:St):Op→Option (List UInt8×Int)
 | .index T x y =>
  match P.underlying T,σ.ev x,σ.ev y with
  | some .string,some (.sc (.string ⟨⟨s⟩⟩)),some (.sc (.int _ i))=>some (s,i)
  | _,_,_=>none
 | _=>none
theorem run_six {T:TypeId} {s:List UInt8} {k:IntKind} {i:Int} (hT:P.underlying T=some .string) (h0:0≤i) (h1:i<s.length) :
  (Instr.index T (.string (bs s)) (.int k i)).run P w=.ok (.int .u8 ((s.getD i.toNat 0).toNat:Int)) w:=by
 have hl:i.toNat<s.length:=by omega
 have e:(bs s)[i.toNat]?=some (s.getD i.toNat 0):=by
  rw [dI,aB hl]
  have hs:i.toNat<(bs s).size:=by rw [bs_size];exact hl
  rw [getElem?_pos (bs s) i.toNat hs]
  rfl
 simp [Instr.index,asIntOf,run_underlying hT,h0,e]
theorem sixV_of {s:List UInt8} {i:Int} (h:sixV P σ o.op=some (s,i)) (hb:0≤i∧i<s.length):WV P C o σ (.sc (.int .u8 ((s.getD i.toNat 0).toNat:Int))):=by
 unfold sixV at h
 split at h
 ·rename_i T x y ho
  split at h
  ·rename_i s' k i' hT hx hy
   cases h
   refine WV.sc fun G a w ok=>?_
   unfold execOp
   simp only [ho,ok.evs hx,ok.evs hy,Sem.run_bind]
   have h6:(Instr.index T (.string ⟨⟨s⟩⟩) (.int k i)).run P w=.ok (.int .u8 ((s.getD i.toNat 0).toNat:Int)) w:=run_six hT hb.1 hb.2
   rw [h6];rfl
  ·cases h
 ·cases h
theorem WL.six {s:List UInt8} {i:Int} (hd:dstB C.N o=some d)(h:sixV P σ o.op=some (s,i))(hb:0≤i∧i<s.length)(k:WL P C ops rest (σ.put d (.sc (.int .u8 ((s.getD i.toNat 0).toNat:Int)))) Q):WL P C ops (o::rest) σ Q :=
 WL.vl hd (sixV_of h hb) k
end
def onB:AV→Bool
 | .sc v=>v.oneCell'
 | .ls _ _=>true
 | _=>false
def lendP (M:List (Nat×AO)):AV→AV
 | .pt k 0 0=>match look k M with
  | some (.box _ cells)=>bif cells.all onB then .pr cells else .pt k 0 0
  | _=>.pt k 0 0
 | av=>lendB M av
def lendC (M:List (Nat×AO)):AV→AV
 | .fn f l=>.fn f (l.map (lendP M))
 | av=>lendP M av
section
variable {B:World→View→Prop} {gl:Nat} {P:Program} {C:Cx} {ops:Array Oper} {rest:List Oper} {σ σ':St} {G G':Gh} {a:Act} {w w':World} {o:Oper} {d:Tmp} {Q:Exit→St→Prop}
theorem onB_of {av:AV} {u:Value} (h:onB av=true)(r:R G av u):u.oneCell'=true∧RP G.F av u∧av.own=false:=by
 cases av with
 | sc v =>
  obtain rfl:=r.sc_eq
  exact⟨h,.sc _,rfl⟩
 | ls n rows =>
  have h2:RP G.F (.ls n rows) u:=(pu2_bd (av:=.ls n rows) rfl 0).rp r
  obtain⟨A,cap,ad,u',rfl,_⟩:=h2.ls_of
  exact⟨rfl,h2,rfl⟩
 | _=>cases h
theorem lendP_rp (ok:Ok C σ G a w) {av:AV} {v:Value} (h:R G av v) (hp:(lendP σ.M av).pu2=true):RP (fun q=>w.cell? q) (lendP σ.M av) v:=by
 have hF:G.F.le fun q=>w.cell? q:=fun p u x=>ok.fw p u x
 cases av with
 | pt k i j =>
  cases i with
  | succ i=>exact lend_rp ok h hp
  | zero =>
   cases j with
   | succ j=>exact lend_rp ok h hp
   | zero =>
    cases hk:look k σ.M with
    | none =>
     exact adJ
    | some ob =>
     cases ob with
     | box T cells =>
      have e:lendP σ.M (.pt k 0 0)=bif cells.all onB then .pr cells else .pt k 0 0:=by simp only [lendP,hk]
      rw [e] at hp ⊢
      cases hc:cells.all onB with
      | false=>rw [hc] at hp;cases hp
      | true =>
       obtain ⟨p,rfl,h1,h2,h3⟩:=h.pt_of
       have hcell:∀ (j:Nat) av,cells[j]?=some av→∃ u,w.cell? (p.add j)=some u∧u.oneCell'=true∧RP G.F av u:=fun j av hj=>by
        have hb:=List.all_eq_true.1 hc av (aY hj)
        have ho:av.own=false:=by cases av<;>first|rfl|cases hb
        obtain ⟨u,hu,hr,_⟩:=ok.cell (i:=0) (j:=0) (l:=cells) hk rfl hj h1 h2 h3 ho
        obtain ⟨q1,q2,_⟩:=onB_of hb hr
        exact ⟨u,hu,q1,q2⟩
       show RP _ (.pr cells) _
       refine .pr cells p (fun j=>(w.cell? (p.add j)).getD undef) (fun j av hj=>?_) (fun j av hj=>?_)
       ·obtain ⟨u,hu,q1,q2⟩:=hcell j av hj
        rw [hu];exact ⟨rfl,q1⟩
       exact aed
     | _ =>
      exact adJ
 | _=>exact lend_rp ok h hp
theorem lendC_rp (ok:Ok C σ G a w) {av:AV} {v:Value} (h:R G av v) (hp:(lendC σ.M av).pu2=true):RP (fun q=>w.cell? q) (lendC σ.M av) v:=by
 cases av with
 | fn f l =>
  obtain ⟨cs,rfl,h1,h2⟩:=h.fn_of
  show RP _ (.fn f (l.map (lendP σ.M))) _
  refine .fn f _ cs (by rw [h1,dH]) fun i av u a b=>?_
  rw [bC] at a
  cases hi:l[i]? with
  | none=>simp [hi] at a
  | some av0 =>
   simp only [hi,kG,Option.some.injEq] at a
   subst a
   refine lendP_rp ok (h2 i av0 u hi b) ?_
   have hall:(l.map (lendP σ.M)).all AV.pu00=true:=hp
   have h3:(lendP σ.M av0).pu00=true:=List.all_eq_true.1 hall _ (aY (by rw [bC,hi];rfl))
   generalize lendP σ.M av0=q at h3 ⊢
   cases q<;>first|rfl|cases h3
 | _=>exact lendP_rp ok h hp
theorem WV.lendV (hB:Holds B gl C) {f:FuncId} {y:Operand} {fv:AV} {xs:Array Operand} {ts:Array TypeId} {args0 caps args args':List AV} {res:Value} (ho:o.op=.call { callee:=.value y,args:=xs,argTypes:=ts }) (hc:∀ vs w,(callFunc f vs).run P w=.ok (.enter f vs) w)
  (hy:σ.ev y=some fv) (hf:fnOf fv=some (f,caps)) (hx:σ.evs xs.toList=some args0) (hcat:args0++caps=args) (hl:args.map (lendC σ.M)=args') (hp:args'.all AV.pu2=true) (hst:∀ w F F',View.le F F'→B w F→B w F') (h:Ctg B P f args' (.sc res)):WV P C o σ (.sc res):=by
 intro G a w ok N Q' hN
 obtain ⟨cs,ey,h1,h2⟩:=fnOf_of hf (ok.evr hy).2
 obtain ⟨e1,e2⟩:=ok.evl2 hx h1 h2 hcat
 subst hl
 have hF:G.F.le fun q=>w.cell? q:=fun p u x=>ok.fw p u x
 refine call_wp ho hc ey (h w (fun q=>w.cell? q) _ (hst w _ _ hF (hB.1 w G.F ok.bel ok.f0)) (fun _ _ x=>x) ⟨by rw [e1,dH],fun i av u p q=>?_⟩) fun e w1 ⟨v,F',he,hb,h1,h2,h3,h4⟩=>?_
 ·rw [bC] at p
  cases hi:args[i]? with
  | none=>simp [hi] at p
  | some av0 =>
   simp only [hi,kG,Option.some.injEq] at p
   subst p
   exact lendC_rp ok (e2 i av0 u hi q) (List.all_eq_true.1 hp _ (aY (by rw [bC,hi];rfl)))
 ·have hv:=h4.sc_eq
  subst hv
  exact ⟨_,he,hN _ { G with F:=G.F } w1 (fun σ'' a'' ok''=>ok''.called hb (fun _ _ x=>x) (fun p u x=>by rw [hb.cell (cell_block (ok.fw p u x))];exact ok.fw p u x) (fun _ _ x=>.inl x)) (.pu _ _ (.sc _)) (RP.bd (F:=G.F) (.sc _) _)⟩
end
def tame:Op→Bool
 | .move _=>true
 | .assign _=>true
 | .alloc _=>true
 | .box _ _=>true
 | .load _ _=>true
 | .store _ _ _=>true
 | .fieldAddr _ _ _=>true
 | .field _ _ _=>true
 | .indexAddr _ _ _=>true
 | .index _ _ _=>true
 | _=>false
section
variable {P:Program} {o:Oper} {a:Act} {w:World} {K K1 K2:Act→World→Prop} {Q:Exit→Act→World→Prop}
theorem run_v (s:Sem Value)(n:Next)(w':World)(h:(do pure (Next.value (← s)):Sem Next).run P w=.ok n w'):∃ x,n=.value x:=by
 rw [Sem.run_bind]at h
 cases hs:s.run P w<;>grind[Result.andThen,Sem.run_pure]
theorem run_u(s:Sem Unit)(n:Next)(w':World)(h:(do s;pure Next.skip:Sem Next).run P w=.ok n w'):n=.skip:=by
 rw [Sem.run_bind]at h
 cases hs:s.run P w<;>simp_all
theorem tame_no {ev:Operand→Value} (ht:tame o.op=true) (n:Next) (w':World) (h:(execOp ev o).run P w=.ok n w'):(∃ x,n=.value x)∨n=.skip:=by
 unfold execOp at h
 cases ho:o.op<;>simp only [ho,tame]at ht h<;>first
  | (cases ht;done)
  |exact .inl (run_v _ _ _ h)
  |exact .inr (run_u _ _ _ h)
  | (cases h;exact .inl ⟨_,rfl⟩)
theorem wp_and (ht:tame o.op=true)(h1:o.wp P a w K1 Q)(h2:o.wp P a w K2 Q):o.wp P a w (fun a w=>K1 a w∧K2 a w) Q:=by
 unfold Oper.wp at *
 cases hr:(execOp a.eval o).run P w with
 | ok n w' =>
  rw [hr] at h1 h2
  rcases tame_no ht n w' hr with⟨x,rfl⟩|rfl
  ·exact⟨h1,h2⟩
  ·exact⟨h1,h2⟩
 | halt x w'=>rw [hr] at h1 h2;cases x<;>simp only [Oper.upon] at h1 h2 ⊢<;>exact h1
end
structure Laid (ops A:Array Oper)(π ρ:Nat→Nat)(i j:Nat):Prop where
 sz:A.size=ops.size
 lt:∀ p,p<ops.size→π p<ops.size
 inv:∀ p,p<ops.size→ρ (π p)=p
 ltr:∀ q,q<ops.size→ρ q<ops.size
 inr:∀ q,q<ops.size→π (ρ q)=q
 hi:i<ops.size
 hj:j<ops.size
 op:∀ (p:Nat)(o:Oper),ops[p]?=some o→∃ X:Array Edge,A[π p]?=some { o with after:=X }∧(∀ e∈X,Region.binds .any e=true→(∃ e'∈o.after,Region.binds .any e'=true∧e.on=π e'.on)∨(p=j∧e.on=π i)) ∧
  (∀ e'∈o.after,Region.binds .any e'=true→∃ e∈X,Region.binds .any e=true∧e.on=π e'.on)
 tm:∀ (p:Nat)(o:Oper),ops[p]?=some o→tame o.op=true∧o.guard=none∧∀ e∈o.after,e.on<ops.size
structure Agr (n:Nat)(π:Nat→Nat)(L LA:Array Bool):Prop where
 s1:L.size=n
 s2:LA.size=n
 at_:∀ p,p<n→LA.getD (π p) false=L.getD p false
section
variable {P:Program} {ops A B:Array Oper} {π ρ π' ρ':Nat→Nat} {i j k:Nat} {L LA LB:Array Bool} {a:Act} {w:World} {K K1 K2:Act→World→Prop} {Q:Exit→Act→World→Prop}
theorem getD_tf {L:Array Bool} {p:Nat} (h:p<L.size):L.getD p true=L.getD p false:=by simp_all
theorem Agr.put (hl:Laid ops A π ρ i j) (h:Agr ops.size π L LA) (hk:k<ops.size):Agr ops.size π (L.setIfInBounds k true) (LA.setIfInBounds (π k) true):=by
 refine ⟨by simp [h.s1],by simp [h.s2],fun p hp=>?_⟩
 by_cases e:k=p
 ·subst e
  have h1:k<L.size:=by rw [h.s1];exact hk
  have h2:π k<LA.size:=by rw [h.s2];exact hl.lt k hk
  simp_all
 ·have e2:π k≠π p:=fun x=>e (by rw [← hl.inv k hk,x,hl.inv p hp])
  have:=h.at_ p hp
  simp_all
theorem ready_lt(h:k∈Region.ready .any ops L):k<ops.size:=by
 grind[mem_ready]
theorem ready_to (hl:Laid ops A π ρ i j) (h:Agr ops.size π L LA) (hij:k=j→L.getD i false=true) (hk:k∈Region.ready .any ops L):π k∈Region.ready .any A LA:=by
 have hlt:=ready_lt hk
 obtain ⟨h1,o,ho,h2⟩:=mem_ready.1 hk
 obtain ⟨X,hX,hX1,_⟩:=hl.op k o ho
 refine mem_ready.2 ⟨?_,_,hX,fun e he hb=>?_⟩
 ·rw [getD_tf (by rw [h.s2];exact hl.lt k hlt),h.at_ k hlt,← getD_tf (by rw [h.s1];exact hlt)];exact h1
 ·rcases hX1 e he hb with⟨e',he',hb',heq⟩|⟨rfl,heq⟩
  ·rw [heq,h.at_ _ ((hl.tm k o ho).2.2 e' he')];exact h2 e' he' hb'
  ·rw [heq,h.at_ _ hl.hi];exact hij rfl
theorem ready_of (hl:Laid ops A π ρ i j) (h:Agr ops.size π L LA) {q:Nat} (hq:q∈Region.ready .any A LA):ρ q∈Region.ready .any ops L:=by
 have hlt:=ready_lt hq
 rw [hl.sz] at hlt
 obtain ⟨h1,o',ho',h2⟩:=mem_ready.1 hq
 have hr:=hl.ltr q hlt
 have ho:ops[ρ q]?=some ops[ρ q]:=pq hr
 obtain ⟨X,hX,_,hX2⟩:=hl.op (ρ q) _ ho
 rw [hl.inr q hlt,ho'] at hX
 cases hX
 refine mem_ready.2 ⟨?_,_,ho,fun e' he' hb'=>?_⟩
 ·rw [getD_tf (by rw [h.s1];exact hr),← h.at_ _ hr,hl.inr q hlt,← getD_tf (by rw [h.s2];exact hlt)];exact h1
 ·obtain ⟨e,he,hb,heq⟩:=hX2 e' he' hb'
  rw [← h.at_ _ ((hl.tm _ _ ho).2.2 e' he'),← heq]
  exact h2 e he hb
theorem ready_nil(hl:Laid ops A π ρ i j)(h:Agr ops.size π L LA)(hr:Region.ready .any ops L=[]):Region.ready .any A LA=[] :=
 List.eq_nil_iff_forall_not_mem.2 fun q hq=>by grind[ready_of]
theorem wpOp_to (hl:Laid ops A π ρ i j)(hk:k<ops.size)(h:wpOp P A Q (π k) K a w):wpOp P ops Q k K a w:=by
 have ho:ops[k]?=some ops[k]:=pq hk
 obtain⟨X,hX,_⟩:=hl.op k _ ho
 have hg:=(hl.tm k _ ho).2.1
 unfold wpOp at h ⊢
 rw [hX] at h
 rw [ho]
 simp only [Region.wanted,hg,if_true] at h ⊢
 exact h
theorem wpOp_and (hk:k<ops.size)(ht:tame ops[k].op=true)(hg:ops[k].guard=none)(h1:wpOp P ops Q k K1 a w)(h2:wpOp P ops Q k K2 a w):wpOp P ops Q k (fun a w=>K1 a w∧K2 a w) a w:=by
 grind[wpOp,Region.wanted,wp_and]
theorem wpAny_one (hl:Laid ops A π ρ i j):∀ (fuel:Nat) (L LA:Array Bool) (a:Act) (w:World),Agr ops.size π L LA→(L.getD i false=true∨L.getD j false=true)→wpAny P .any A Q fuel LA a w→wpAny P .any ops Q fuel L a w:=by
 have cond:∀ {L:Array Bool} {k:Nat},L.size=ops.size→(L.getD i false=true∨L.getD j false=true)→k∈Region.ready .any ops L→k=j→L.getD i false=true:=by
  grind[mem_ready]
 intro fuel
 induction fuel with
 | zero =>
  intro L LA a w h hor hw
  refine ⟨List.eq_nil_iff_forall_not_mem.2 fun k hk=>?_,hw.2⟩
  have:=ready_to hl h (cond h.s1 hor hk) hk
  rw [hw.1] at this;cases this
 | succ fuel ih =>
  intro L LA a w h hor hw
  refine ⟨fun hr=>hw.1 (ready_nil hl h hr),fun k hk=>?_⟩
  have hlt:=ready_lt hk
  refine wpOp_mono (fun a' w' hw'=>ih _ _ a' w' (h.put hl hlt) ?_ hw') (wpOp_to hl hlt (hw.2 _ (ready_to hl h (cond h.s1 hor hk) hk)))
  have mono:∀ q,L.getD q false=true→(L.setIfInBounds k true).getD q false=true:=fun q hq=>by
   by_cases e:k=q
   ·subst e;simp [bV,show k<L.size by rw [h.s1];exact hlt]
   simp_all
  grind
theorem wpAny_both (hA:Laid ops A π ρ i j) (hB:Laid ops B π' ρ' j i) (hne:i≠j):∀ (fuel:Nat) (L LA LB:Array Bool) (a:Act) (w:World),Agr ops.size π L LA→Agr ops.size π' L LB→L.getD i false=false→L.getD j false=false →
  wpAny P .any A Q fuel LA a w→wpAny P .any B Q fuel LB a w→wpAny P .any ops Q fuel L a w:=by
 intro fuel
 induction fuel with
 | zero =>
  intro L LA LB a w ha hb hi hj wa wb
  refine ⟨List.eq_nil_iff_forall_not_mem.2 fun k hk=>?_,wa.2⟩
  by_cases e:k=j
  ·have:=ready_to hB hb (fun e2=>absurd (e2.symm.trans e) hne) hk
   rw [wb.1] at this;cases this
  ·have:=ready_to hA ha (fun e2=>absurd e2 e) hk
   rw [wa.1] at this;cases this
 | succ fuel ih =>
  intro L LA LB a w ha hb hi hj wa wb
  refine ⟨fun hr=>wa.1 (ready_nil hA ha hr),fun k hk=>?_⟩
  have hlt:=ready_lt hk
  have hs:(L.setIfInBounds k true).getD k false=true:=by simp [bV,show k<L.size by rw [ha.s1];exact hlt]
  have hso:∀ q,k≠q→(L.setIfInBounds k true).getD q false=L.getD q false:=fun q e=>by
   simp_all
  by_cases e1:k=i
  ·subst e1
   exact wpOp_mono (fun a' w' hw'=>wpAny_one hA fuel _ _ a' w' (ha.put hA hlt) (.inl hs) hw') (wpOp_to hA hlt (wa.2 _ (ready_to hA ha (fun e=>absurd e hne) hk)))
  ·by_cases e2:k=j
   ·subst e2
    exact wpOp_mono (fun a' w' hw'=>wpAny_one hB fuel _ _ a' w' (hb.put hB hlt) (.inl hs) hw') (wpOp_to hB hlt (wb.2 _ (ready_to hB hb (fun e=>absurd e e1) hk)))
   ·have t:=hA.tm k _ (pq hlt)
    refine wpOp_mono (fun a' w' hw'=>ih _ _ _ a' w' (ha.put hA hlt) (hb.put hB hlt) ((hso i e1).trans hi) ((hso j e2).trans hj) hw'.1 hw'.2)
     (wpOp_and hlt t.1 t.2.1 (wpOp_to hA hlt (wa.2 _ (ready_to hA ha (fun e=>absurd e e2) hk))) (wpOp_to hB hlt (wb.2 _ (ready_to hB hb (fun e=>absurd e e1) hk))))
theorem WA.either {C:Cx} {σ:St} {Q:Exit→St→Prop} (hA:Laid ops A π ρ i j) (hB:Laid ops B π' ρ' j i) (hne:i≠j) (h1:WA P C A σ Q) (h2:WA P C B σ Q):WA P C ops σ Q:=by
 intro G a w ok
 have r:∀ (n p:Nat),(Array.replicate n false).getD p false=false:=fun n p=>by
  simp only [bV,Array.getElem?_replicate];split<;>rfl
 have ag:∀ (π:Nat→Nat),Agr ops.size π (Array.replicate ops.size false) (Array.replicate ops.size false):=fun π=>⟨by simp,by simp,fun p _=>by rw [r,r]⟩
 have x:=h1 G a w ok
 have y:=h2 G a w ok
 rw [hA.sz] at x
 rw [hB.sz] at y
 exact wpAny_both hA hB hne _ _ _ _ a _ (ag π) (ag π') (r _ _) (r _ _) x y
end
end
end Go.Proofs.YthohlofpphjofaaGreatDoor
