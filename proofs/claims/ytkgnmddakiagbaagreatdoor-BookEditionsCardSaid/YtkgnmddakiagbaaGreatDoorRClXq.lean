/- notation.Column: the reference. -/
import Derived.Test.YtkgnmddakiagbaaGreatDoorMcPXq
set_option linter.unusedVariables false
set_option linter.unusedSimpArgs false
namespace Go.Proofs.YtkgnmddakiagbaaGreatDoor
open Go.RowKit
set_option maxRecDepth 100000
set_option maxHeartbeats 8000000
theorem bldS0 (w:World) (b:Nat) (p:Value) (hbk:w.heap[b]?=some (.cells #[p,.slice none 0 0] 95 (0,0))) :
  Calls Tryz.prog 50 #[.pointer (some ⟨b,0,none⟩)] w fun e w'=>e=.returned (.string (bs []))∧w'=w.drew:=by
 have c1:w.drew.cell? ⟨b,1,none⟩=some (.slice none 0 0):=by
  have:w.drew.heap[b]?=some (.cells #[p,.slice none 0 0] 95 (0,0)):=hbk
  rw [Lib.cell_of_heap this];rfl
 have hUS:(Builtin.unsafeString_ #[203,3] 9 #[.pointer none,.int .i64 0]).run Tryz.prog w.drew=.ok (.string .empty) w.drew:=Lib.run_unsafeString_none _ _ _ _ _
 have hSD:(Builtin.unsafeSliceData_ #[93] 203 #[.slice none 0 0]).run Tryz.prog w.drew=.ok (.pointer none) w.drew:=Lib.run_unsafeSliceData_nil _ _ _ _ _
 have mixed:Tryz.prog.follows .mixedOrders=true:=by kernel_rfl
 go_enter Tryz.func50,Tryz.ntmps50
 go_wp2
 go_region_o
 all_goals (go_wp2;go_ret;exact ⟨rfl,rfl⟩)
theorem WV.box2 {P:Program} {C:Cx} {o:Oper} {σ:St} {f:FuncId} {k:Nat} {x:Operand} {ts:Array TypeId} {T:TypeId} {c1 c2 v:Value} (ho:o.op=.call { callee:=.value (.func f),args:=#[x],argTypes:=ts }) (hc:∀ vs w,(callFunc f vs).run P w=.ok (.enter f vs) w)
  (hx:σ.ev x=some (.pt k 0 0)) (hk:look k σ.M=some (.box T [.sc c1,.sc c2])) (h:∀ w b,w.heap[b]?=some (.cells #[c1,c2] T (0,0))→Calls P f #[.pointer (some ⟨b,0,none⟩)] w fun e w'=>e=.returned v∧w'=w.drew):WV P C o σ (.sc v):=by
 intro G a w ok N Q' hN
 obtain ⟨p,ep,p1,p2,p3⟩:=(ok.evr hx).2.pt_of
 obtain ⟨h1,cs,Φ,hB,hsz,_,_,hcs⟩:=(ok.ob k _ hk).2.2
 obtain rfl:=addr_eq p1 p2 p3
 rw [Nat.zero_mul] at ep
 have hsz:cs.size=2:=hsz
 have g:∀ i (h:i<2),cs[i]?=some (cs[i]'(by omega)):=fun i h=>Array.getElem?_eq_getElem (by omega)
 have e1:=(CR.r (hcs 0 _ _ rfl (g 0 (by omega))) rfl).sc_eq
 have e2:=(CR.r (hcs 1 _ _ rfl (g 1 (by omega))) rfl).sc_eq
 have ecs:cs=#[c1,c2]:=by
  apply Array.ext (by simp [hsz])
  intro i hi hi2
  match i,(show i<2 by omega) with
  | 0,_=>exact e1
  | 1,_=>exact e2
 subst ecs
 unfold Oper.wp execOp
 have ev:a.eval (.func f)=.func (.func f) #[] #[]:=rfl
 have e3:(#[]++(#[x]:Array Operand).map a.eval++#[]:Array Value)=#[.pointer (some ⟨G.b k,0,none⟩)]:=by simp [ep]
 simp only [ho,resolve,ev,Deferred.ofValue,invoke,Sem.run_bind,Sem.run_pure,Result.andThen_ok,hc,Oper.upon,e3]
 refine (h w (G.b k) hB).mono fun e w1 ⟨he,hw⟩=>?_
 subst he hw
 exact hN _ G _ (fun σ'' a'' ok''=>ok''.drew) (.pu _ _ (.sc _)) (.sc _)
end Go.Proofs.YtkgnmddakiagbaaGreatDoor
namespace Go.Proofs.YtkgnmddakiagbaaGreatDoor
open Go.RowKit
def scanK(st:List Int)(m:Nat)(k:Ln):List Sf→Int
 | []=>0
 | x::r=>if cntS x.1 st=m then(if(x.2.1,x.2.2.1)=k∧0<x.2.2.2 then x.2.2.2 else scanK st m k r)else 0
def frcR (st:List Int)(key:Int)(ev:Int)(k:Ln)(prev:List Sf):Int:=if 0<scanK st (cntS ev st) k prev then altA (scanK st (cntS ev st) k prev) else sigB key (byteOf k.1)
def fitA(a v:Int):Prop:=(a=0∧v=0)∨(0<a∧a≤3∧v=altA a+2)
theorem accN_alt {a:Int} (h:-1≤a∧a≤1):altA (accN a)=a∧0<accN a∧accN a≤3:=by
 have:a=-1∨a=0∨a=1:=by omega
 rcases this with h|h|h<;>subst h<;>decide
def FitS (st:List Int) (s:ES):Prop:=(∀ k,fitA (scanK st s.next k s.out.reverse) (lookA k s.alt))
theorem fit_frc {st:List Int} {key:Int} {ev:Int} {k:Ln} {s:ES} (h:FitS st s)(hn:s.next=cntS ev st):frcR st key ev k s.out.reverse=frcA key s.alt k:=by
 unfold frcR frcA
 rw [← hn]
 rcases h k with⟨h1,h2⟩|⟨h1,h2,h3⟩
 ·rw [h1,h2];rfl
 ·have hv:0<lookA k s.alt:=by rw [h3];unfold altA;split<;>(try split)<;>omega
  rw [if_pos h1,if_pos hv,h3];omega
theorem fit_put {st:List Int} {key ev:Int} {sp:Int×Int×Int} {s:ES} (h:FitS st s) (hn:s.next=cntS ev st) (ha:-1≤sp.2.1∧sp.2.1≤1):FitS st (putE key ev sp s)∧(putE key ev sp s).next=s.next:=by
 unfold putE
 split
 ·refine ⟨fun k=>?_,rfl⟩
  show fitA (scanK st s.next k (s.out++[_]).reverse) (lookA k s.alt)
  rw [List.reverse_append]
  show fitA (if cntS ev st=s.next then (if (sp.1,sp.2.2)=k∧0<(0:Int) then 0 else scanK st s.next k s.out.reverse) else 0) _
  rw [if_pos hn.symm,if_neg (by omega)]
  exact h k
 ·refine ⟨fun k=>?_,rfl⟩
  show fitA (scanK st s.next k (s.out++[_]).reverse) (lookA k (updA (sp.1,sp.2.2) (sp.2.1+2) s.alt))
  rw [List.reverse_append,lookA_upd]
  show fitA (if cntS ev st=s.next then (if (sp.1,sp.2.2)=k∧0<accN sp.2.1 then accN sp.2.1 else scanK st s.next k s.out.reverse) else 0) _
  obtain ⟨a1,a2,a3⟩:=accN_alt ha
  rw [if_pos hn.symm]
  by_cases hk:(sp.1,sp.2.2)=k
  ·rw [if_pos ⟨hk,a2⟩,if_pos hk.symm]
   exact .inr ⟨a2,a3,by rw [a1]⟩
  ·rw [if_neg (fun x=>hk x.1),if_neg (fun x=>hk x.symm)]
   exact h k
theorem fit_clr {MS:List Me} {ev:Int} {s:ES} (h:FitS (fstL MS) s) (hl:∀ x,s.out.reverse.head?=some x→cntS x.1 (fstL MS)=s.next) (hn:nextF MS ev s.next=cntS ev (fstL MS)) :
  FitS (fstL MS) (clrE MS ev s)∧(clrE MS ev s).next=cntS ev (fstL MS)∧(clrE MS ev s).out=s.out:=by
 refine ⟨fun k=>?_,hn,rfl⟩
 show fitA (scanK (fstL MS) (nextF MS ev s.next) k s.out.reverse) (lookA k (if nextF MS ev s.next=s.next then s.alt else []))
 by_cases he:nextF MS ev s.next=s.next
 ·rw [if_pos he,he];exact h k
 ·rw [if_neg he]
  refine .inl ⟨?_,rfl⟩
  cases hr:s.out.reverse with
  | nil=>rfl
  | cons x r =>
   have:=hl x (by rw [hr];rfl)
   unfold scanK
   rw [if_neg (by rw [this];exact fun q=>he q.symm)]
theorem eng_step {MS:List Me} {key:Int} {s:ES} {n:Nt} (h:FitS (fstL MS) s) (hl:∀ x,s.out.reverse.head?=some x→cntS x.1 (fstL MS)=s.next) (hn:nextF MS n.1 s.next=cntS n.1 (fstL MS)) (hx:spX n.2.2.1 key=0) :
  (engN key MS s n).out=s.out++[(n.1,(spV n.2.2.1 key).1,(spV n.2.2.1 key).2.2,if (spV n.2.2.1 key).2.1=frcR (fstL MS) key n.1 ((spV n.2.2.1 key).1,(spV n.2.2.1 key).2.2) s.out.reverse then 0 else accN (spV n.2.2.1 key).2.1)]
  ∧ FitS (fstL MS) (engN key MS s n)∧(engN key MS s n).next=cntS n.1 (fstL MS):=by
 obtain ⟨h1,h2,h3⟩:=fit_clr h hl hn
 have ha:=spV_al hx
 obtain ⟨h4,h5⟩:=fit_put (key:=key) (ev:=n.1) h1 h2 ha
 have hf:=fit_frc (key:=key) (k:=((spV n.2.2.1 key).1,(spV n.2.2.1 key).2.2)) h1 h2
 rw [h3] at hf
 refine ⟨?_,h4,h5.trans h2⟩
 rw [hf]
 show (putE key n.1 (spV n.2.2.1 key) (clrE MS n.1 s)).out=_
 unfold putE
 split
 ·rename_i hc
  show (clrE MS n.1 s).out++_=_
  rw [h3]
 ·rename_i hc
  show (clrE MS n.1 s).out++_=_
  rw [h3]
end Go.Proofs.YtkgnmddakiagbaaGreatDoor
namespace Go.Proofs.YtkgnmddakiagbaaGreatDoor
open Go.RowKit
def refN (st:List Int)(key:Int)(out:List Sf)(n:Nt):Sf:=(n.1,(spV n.2.2.1 key).1,(spV n.2.2.1 key).2.2,if (spV n.2.2.1 key).2.1=frcR st key n.1 ((spV n.2.2.1 key).1,(spV n.2.2.1 key).2.2) out.reverse then 0 else accN (spV n.2.2.1 key).2.1)
def refE (st:List Int)(key:Int):List Sf→List Nt→List Sf
 | out,[]=>out
 | out,n::r=>refE st key (out++[refN st key out n]) r
theorem eng_fold {MS:List Me} {key:Int} (hA:(fstL MS).Pairwise (·<·)):∀ (L:List Nt) (s:ES),FitS (fstL MS) s→(∀ x,s.out.reverse.head?=some x→cntS x.1 (fstL MS)=s.next)→s.next≤MS.length→(∀ x∈MS.take s.next,∀ n∈L,x.1≤n.1) →
  L.Pairwise (fun a b=>a.1≤b.1)→(∀ n∈L,spX n.2.2.1 key=0)→(L.foldl (engN key MS) s).out=refE (fstL MS) key s.out L
 | [],s,_,_,_,_,_,_=>rfl
 | n::r,s,h,hl,hm,ht,hp,hx=>by
  have hn:=nextF_cnt hA hm fun x hx2=>ht x hx2 n (by simp)
  obtain ⟨h1,h2,h3⟩:=eng_step (key:=key) h hl hn (hx n (by simp))
  obtain ⟨p1,p2⟩:=List.pairwise_cons.1 hp
  rw [List.foldl_cons]
  have ih:=eng_fold hA r (engN key MS s n) h2 (fun x hx2=>by
   rw [h1,List.reverse_append] at hx2
   have e:x=_:=(Option.some.inj hx2).symm
   rw [e,h3]) (by rw [h3];have:=cntS_le n.1 (fstL MS);simpa [fstL] using this) (fun x hx2 m hm2=>by
    rw [h3] at hx2
    have q1:=cnt_take hA x hx2
    have q2:=p1 m hm2
    omega) p2 fun m hm2=>hx m (by simp [hm2])
  rw [ih,h1]
  rfl
theorem engS_ref {MS:List Me} {key:Int} (hA:(fstL MS).Pairwise (·<·)) (L:List Nt) (hp:L.Pairwise (fun a b=>a.1≤b.1)) (hx:∀ n∈L,spX n.2.2.1 key=0):(engS key MS L).out=refE (fstL MS) key [] L :=
 eng_fold hA L ⟨[],0,[]⟩ (fun k=>.inl ⟨rfl,rfl⟩) (fun x h=>by cases h) (Nat.zero_le _) (fun x h=>by simp at h) hp hx
end Go.Proofs.YtkgnmddakiagbaaGreatDoor
namespace Go.Proofs.YtkgnmddakiagbaaGreatDoor
open Go.RowKit
abbrev atL(x:Sf):Ln:=(x.2.1,x.2.2.1)
def sngA (st:List Int)(key:Int)(prev:List Sf)(x:Sf):Int:=if 0<x.2.2.2 then altA x.2.2.2 else frcR st key x.1 (atL x) prev
/-! As the notes are gone through. -/
theorem rev_take {L:List Sf} {k:Nat} (h:k<L.length):(L.take (k+1)).reverse=L[k]::(L.take k).reverse:=by
 rw [List.take_succ_eq_append_getElem h,List.reverse_append];rfl
end Go.Proofs.YtkgnmddakiagbaaGreatDoor
namespace Go.Proofs.YtkgnmddakiagbaaGreatDoor
open Go.RowKit
theorem notesR_asc (p:Pce):∀ k,(notesR p k).Pairwise (fun a b=>a.1≤b.1)∧∀ n∈notesR p k,n.1<(k:Int)
 | 0=>by simp [notesR]
 | k+1=>by
  obtain ⟨h1,h2⟩:=notesR_asc p k
  have e1:∀ x,(noteR p k x).1=(k:Int):=fun x=>rfl
  unfold notesR
  cases p.evs[k]? with
  | none=>exact ⟨h1,fun n hn=>by have:=h2 n hn;omega⟩
  | some e =>
   refine ⟨List.pairwise_append.2 ⟨h1,?_,fun a ha b hb=>?_⟩,fun n hn=>?_⟩
   ·rw [List.pairwise_map]
    have:∀ l:List Stp,l.Pairwise fun a b=>(noteR p k a).1≤(noteR p k b).1:=fun l=>by
     induction l with
     | nil=>exact List.Pairwise.nil
     | cons a r ih=>exact List.pairwise_cons.2 ⟨fun b _=>by rw [e1,e1];omega,ih⟩
    exact this _
   ·obtain ⟨x,_,rfl⟩:=List.mem_map.1 hb
    have:=h2 a ha
    rw [e1];omega
   ·rcases List.mem_append.1 hn with hn|hn
    ·have:=h2 n hn;omega
    ·obtain ⟨x,_,rfl⟩:=List.mem_map.1 hn
     rw [e1];omega
end Go.Proofs.YtkgnmddakiagbaaGreatDoor
namespace Go.Proofs.YtkgnmddakiagbaaGreatDoor
open Go.RowKit
theorem spX_of {p key:Int} (h:spX p key=0):sndX (spV p key).1 (spV p key).2.1 (spV p key).2.2=0∧sndR (spV p key).1 (spV p key).2.1 (spV p key).2.2=p:=by
 have e:spV p key=(spP p key).getD (0,0,0):=if_pos h
 have hs:(spP p key).isSome=true:=by
  unfold spX at h
  by_cases h1:0≤p∧p≤127
  ·rw [if_neg (fun x=>x h1)]at h
   by_cases h2:-4≤key∧key≤4
   ·rw [if_neg (fun x=>x h2)]at h
    by_cases h3:(spP p key).isSome=true
    ·exact h3
    ·rw [if_neg h3]at h;cases h
   ·rw [if_pos h2]at h;cases h
  ·rw [if_pos h1]at h;cases h
 obtain⟨r,hr⟩:=Option.isSome_iff_exists.1 hs
 rw [e,hr]
 obtain⟨a,b⟩:=spP_of hr
 obtain⟨c,d⟩:=snd_ok a
 exact⟨d,c.trans b⟩
theorem sngA_ref {st:List Int} {key:Int} {out:List Sf} {n:Nt} (hx:spX n.2.2.1 key=0) :
  sngA st key out.reverse (refN st key out n)=(spV n.2.2.1 key).2.1∧0≤(refN st key out n).2.2.2∧(refN st key out n).2.2.2≤3:=by
 have ha:=spV_al hx
 obtain⟨a1,a2,a3⟩:=accN_alt ha
 by_cases hc:(spV n.2.2.1 key).2.1=frcR st key n.1 ((spV n.2.2.1 key).1,(spV n.2.2.1 key).2.2) out.reverse
 ·have e:refN st key out n=(n.1,(spV n.2.2.1 key).1,(spV n.2.2.1 key).2.2,0):=by unfold refN;rw [if_pos hc]
  rw [e]
  refine⟨?_,by simp,by simp⟩
  unfold sngA
  rw [if_neg (by simp)]
  exact hc.symm
 ·have e:refN st key out n=(n.1,(spV n.2.2.1 key).1,(spV n.2.2.1 key).2.2,accN (spV n.2.2.1 key).2.1):=by unfold refN;rw [if_neg hc]
  rw [e]
  refine⟨?_,by show 0≤accN _;omega,a3⟩
  unfold sngA
  rw [if_pos a2]
  exact a1
theorem engL_ref {p:Pce} {key:Int} (hx:engX p key=0):engL p key=refE (fstL (mea p.evs p.evs.length)) key [] (notesR p p.evs.length)∧∀ n∈notesR p p.evs.length,spX n.2.2.1 key=0:=by
 have hb:engB key (notesR p p.evs.length)=false:=by
  unfold engX at hx
  split at hx
  ·split at hx
   ·cases hx
   ·cases hq:engB key (notesR p p.evs.length) with
    | false=>rfl
    | true=>rw [hq] at hx;cases hx
  ·rename_i h;exact absurd hx h
 have hall:∀ n∈notesR p p.evs.length,spX n.2.2.1 key=0:=fun n hn=>by
  have:=(List.any_eq_false.1 hb) n hn
  simpa using this
 have e:engL p key=(engS key (mea p.evs p.evs.length) (notesR p p.evs.length)).out:=if_pos hx
 rw [e]
 exact ⟨engS_ref (mea_asc p.evs p.evs.length).1 _ (notesR_asc p p.evs.length).1 hall,hall⟩
/-! Which pitches cannot be spelled. -/
end Go.Proofs.YtkgnmddakiagbaaGreatDoor
namespace Go.Proofs.YtkgnmddakiagbaaGreatDoor
open Go.RowKit
abbrev Asc (L:List Sf):Prop:=L.Pairwise (fun a b=>a.1≤b.1)
abbrev atK (j:Int)(L:List Sf):List Sf:=L.filter fun x=>decide (x.1=j)
theorem asc_split (k:Int):∀ L:List Sf,Asc L→(∀ x∈L,k≤x.1) →
  (L.takeWhile fun x=>decide (x.1=k))=atK k L∧Asc (L.dropWhile fun x=>decide (x.1=k))∧(∀ x∈L.dropWhile fun x=>decide (x.1=k),k+1≤x.1)∧∀ j,k<j→atK j (L.dropWhile fun x=>decide (x.1=k))=atK j L
 | [],_,_=>⟨rfl,List.Pairwise.nil,by simp,fun _ _=>rfl⟩
 | x::r,h,hk=>by
  obtain ⟨h1,h2⟩:=List.pairwise_cons.1 h
  by_cases hx:x.1=k
  ·obtain ⟨a,b,c,d⟩:=asc_split k r h2 fun y hy=>hk y (by simp [hy])
   have hd:decide (x.1=k)=true:=by simpa using hx
   rw [List.takeWhile_cons_of_pos (p:=fun x:Sf=>decide (x.1=k)) hd,List.dropWhile_cons_of_pos (p:=fun x:Sf=>decide (x.1=k)) hd]
   refine ⟨?_,b,c,fun j hj=>?_⟩
   ·rw [a];exact (List.filter_cons_of_pos (p:=fun x:Sf=>decide (x.1=k)) hd).symm
   ·rw [d j hj]
    exact (List.filter_cons_of_neg (p:=fun x:Sf=>decide (x.1=j)) (by simp;omega)).symm
  ·have hd:¬ decide (x.1=k)=true:=by simpa using hx
   have hk0:=hk x (by simp)
   have hall:∀ y∈x::r,k+1≤y.1:=fun y hy=>by
    rcases List.mem_cons.1 hy with rfl|hy
    ·omega
    ·have:=h1 y hy;omega
   rw [List.takeWhile_cons_of_neg (p:=fun x:Sf=>decide (x.1=k)) hd,List.dropWhile_cons_of_neg (p:=fun x:Sf=>decide (x.1=k)) hd]
   refine ⟨?_,h,hall,fun _ _=>rfl⟩
   symm
   rw [List.filter_eq_nil_iff]
   intro y hy
   have:=hall y hy
   simp;omega
theorem rsT_ok {L:List Sf} (h:Asc L)(h0:∀ x∈L,0≤x.1):∀ k:Nat,Asc (rsT L k)∧(∀ x∈rsT L k,(k:Int)≤x.1)∧∀ j,(k:Int)≤j→atK j (rsT L k)=atK j L
 | 0=>⟨h,fun x hx=>by have:=h0 x hx;omega,fun _ _=>rfl⟩
 | k+1=>by
  obtain⟨a,b,c⟩:=rsT_ok h h0 k
  obtain⟨_,d,e,f⟩:=asc_split k (rsT L k) a b
  refine⟨d,fun x hx=>?_,fun j hj=>?_⟩
  ·have:=e x hx;omega
  ·rw [← c j (by omega)];exact f j (by omega)
theorem nmK_at {L:List Sf} (h:Asc L)(h0:∀ x∈L,0≤x.1)(k:Nat):nmK L k=(atK k L).map sfT:=by
 obtain⟨a,b,c⟩:=rsT_ok h h0 k
 unfold nmK
 rw [(asc_split k (rsT L k) a b).1,c k (Int.le_refl _)]
theorem putE_ev (key ev:Int)(sp:Int×Int×Int)(s:ES):(putE key ev sp s).out.map (·.1)=s.out.map (·.1)++[ev]:=by
 unfold putE
 split<;>simp
theorem eng_ev (key:Int) (MS:List Me):∀ (L:List Nt) (s:ES),(L.foldl (engN key MS) s).out.map (·.1)=s.out.map (·.1)++L.map (·.1)
 | [],s=>by simp
 | n::r,s=>by
  rw [List.foldl_cons,eng_ev key MS r,show engN key MS s n=putE key n.1 (spV n.2.2.1 key) (clrE MS n.1 s) from rfl,putE_ev]
  simp [clrE]
theorem engL_ev {p:Pce} {key:Int} (hx:engX p key=0):(engL p key).map (·.1)=(notesR p p.evs.length).map (·.1):=by
 have e:engL p key=(engS key (mea p.evs p.evs.length) (notesR p p.evs.length)).out:=if_pos hx
 rw [e]
 exact eng_ev key _ _ ⟨[],0,[]⟩
theorem engL_asc {p:Pce} {key:Int} (hx:engX p key=0):Asc (engL p key)∧∀ x∈engL p key,0≤x.1:=by
 have h1:=(notesR_asc p p.evs.length).1
 have e:=engL_ev hx
 have h2:((notesR p p.evs.length).map (·.1)).Pairwise (·≤·):=List.pairwise_map.2 h1
 rw [← e] at h2
 refine ⟨List.pairwise_map.1 h2,fun x hx2=>?_⟩
 have hm:x.1∈(engL p key).map (·.1):=List.mem_map.2 ⟨x,hx2,rfl⟩
 rw [e] at hm
 obtain ⟨n,hn,hne⟩:=List.mem_map.1 hm
 obtain ⟨i,hi,_⟩:=notesR_ev p.evs.length (Nat.le_refl _) n hn
 omega
theorem notesR_has (p:Pce) (k:Nat):∀ m,m≤p.evs.length→((k:Int)∈(notesR p m).map (·.1)↔∃ h:k<m,∃ h2:k<p.evs.length,p.evs[k].stops≠[])
 | 0,_=>by simp [notesR]
 | m+1,hm=>by
  have ih:=notesR_has p k m (by omega)
  have e1:notesR p (m+1)=notesR p m++p.evs[m].stops.map (noteR p m):=by
   show (match p.evs[m]? with|some e=>_|none=>_)=_
   rw [List.getElem?_eq_getElem (show m<p.evs.length by omega)]
  rw [e1,List.map_append,List.mem_append,ih,List.map_map]
  constructor
  ·rintro (⟨a,b,c⟩|h)
   ·exact ⟨by omega,b,c⟩
   ·obtain ⟨x,hx,e⟩:=List.mem_map.1 h
    have e:(m:Int)=k:=e
    obtain rfl:m=k:=by omega
    exact ⟨by omega,by omega,List.ne_nil_of_mem hx⟩
  ·rintro ⟨a,b,c⟩
   by_cases e:k<m
   ·exact .inl ⟨e,b,c⟩
   ·obtain rfl:k=m:=by omega
    obtain ⟨x,r,hx⟩:=List.exists_cons_of_ne_nil c
    refine .inr (List.mem_map.2 ⟨x,by rw [hx];simp,rfl⟩)
def stfR (L:List Sf)(k:Nat)(e:Ev):List UInt8:=if e.tie=true then [126] else if restB e=true then [37] else Lib.join ((atK k L).map sfT) [43]
theorem evT_stf {p:Pce} {key:Int} (hx:engX p key=0) (h0:pceE p=0) (k:Nat) (hk:k<p.evs.length):evT (engL p key) k p.evs[k]=stfR (engL p key) k p.evs[k]:=by
 obtain ⟨a,b⟩:=engL_asc hx
 have hn:=nmK_at a b k
 have hh:((k:Int)∈(engL p key).map (·.1)↔p.evs[k].stops≠[]):=by
  rw [engL_ev hx,notesR_has p k _ (Nat.le_refl _)]
  exact ⟨fun ⟨_,_,h⟩=>h,fun h=>⟨hk,hk,h⟩⟩
 have hm:(atK k (engL p key)=[])↔p.evs[k].stops=[]:=by
  rw [List.filter_eq_nil_iff]
  constructor
  ·intro h
   by_cases hs:p.evs[k].stops=[]
   ·exact hs
   ·obtain ⟨x,hx2,e⟩:=List.mem_map.1 (hh.2 hs)
    exact absurd (by simpa using e) (h x hx2)
  ·intro h x hx2 he
   have he:x.1=k:=by simpa using he
   exact hh.1 (List.mem_map.2 ⟨x,hx2,he⟩) h
 have hok:=evOk_of h0 hk
 unfold evT stfR
 rw [hn]
 by_cases hs:p.evs[k].stops=[]
 ·rw [hm.2 hs,List.map_nil,if_pos rfl]
  by_cases ht:p.evs[k].tie=true
  ·rw [if_pos ht,if_pos ht]
  ·rw [if_neg ht,if_neg ht,if_pos (by unfold restB;simp [hs];simpa using ht)]
 ·have hne:(atK k (engL p key)).map sfT≠[]:=by
   intro h
   exact hs (hm.1 (List.map_eq_nil_iff.1 h))
  rw [if_neg hne,if_neg (fun ht=>hs (hok.tie ht).1),if_neg]
  intro hr
  unfold restB at hr
  simp at hr
  exact hs hr.1
end Go.Proofs.YtkgnmddakiagbaaGreatDoor
namespace Go.Proofs.YtkgnmddakiagbaaGreatDoor
open Go.RowKit
set_option maxRecDepth 100000
set_option maxHeartbeats 4000000
theorem rColumn_FS (s:Int) (p:Pce) (hO:PcOk p) (z:Int):Ctr Tryz.prog 81 [.sc (.int .u8 s),ePce p,.sc (.int .i64 z)] (.tu [.sc (.string (bs (colT s p z))),.sc (.int .i64 (colX s p z))]):=by
 have hn3:=hO.n3
 refine Ctr.intro Tryz.func81 rfl Tryz.ntmps81 (Nat.le_of_ble_eq_true rfl) (bd_all rfl) fun w0 F0=>?_;dsimp only [St.init,number,Nat.reduceAdd]
 repeat (first|refine W.go rfl ?_|refine WL.nil ?_|refine WL.ev rfl ?_|refine WL.gyes rfl rfl rfl rfl ?_|refine WL.opno rfl rfl rfl rfl rfl rfl rfl ?_|refine WL.len rfl rfl (by first|exact List.length_map _|exact List.length_replicate|rfl) ?_|refine W.condT rfl ?_|refine W.condF rfl ?_)
 (first|refine (?_:W _ _ _ _ _)|refine (?_:WL _ _ _ _ _ _)|skip)
 try dsimp only [St.put,Nat.reduceAdd]
 refine WL.vl rfl (WV.call rfl (callF Tryz.func77 rfl rfl) rfl rfl (known_FS s)) ?_
 repeat (first|refine W.go rfl ?_|refine WL.nil ?_|refine WL.ev rfl ?_|refine WL.gyes rfl rfl rfl rfl ?_|refine WL.opno rfl rfl rfl rfl rfl rfl rfl ?_|refine WL.len rfl rfl (by first|exact List.length_map _|exact List.length_replicate|rfl) ?_|refine W.condT rfl ?_|refine W.condF rfl ?_)
 (first|refine (?_:W _ _ _ _ _)|refine (?_:WL _ _ _ _ _ _)|skip)
 try dsimp only [St.put,Nat.reduceAdd]
 (refine W.cond rfl (fun hif=>?_) (fun hif=>?_)<;>(try simp only [decide_eq_true_eq,decide_eq_false_iff_not,Int.not_lt,Int.not_le,Bool.not_eq_true',Bool.not_eq_false'] at hif))
 ·have hs:¬ (1≤s∧s≤4):=by simpa using hif
  rw [(colX_sys hs).1,(colX_sys hs).2]
  repeat (first|refine W.go rfl ?_|refine WL.nil ?_|refine WL.ev rfl ?_|refine WL.gyes rfl rfl rfl rfl ?_|refine WL.opno rfl rfl rfl rfl rfl rfl rfl ?_|refine WL.len rfl rfl (by first|exact List.length_map _|exact List.length_replicate|rfl) ?_|refine W.condT rfl ?_|refine W.condF rfl ?_)
  (first|refine (?_:W _ _ _ _ _)|refine (?_:WL _ _ _ _ _ _)|skip)
  try dsimp only [St.put,Nat.reduceAdd]
  exact W.ret (fin2 rfl rfl rfl rfl rfl rfl rfl)
 have hs:1≤s∧s≤4:=by simpa using hif
 repeat (first|refine W.go rfl ?_|refine WL.nil ?_|refine WL.ev rfl ?_|refine WL.gyes rfl rfl rfl rfl ?_|refine WL.opno rfl rfl rfl rfl rfl rfl rfl ?_|refine WL.len rfl rfl (by first|exact List.length_map _|exact List.length_replicate|rfl) ?_|refine W.condT rfl ?_|refine W.condF rfl ?_)
 (first|refine (?_:W _ _ _ _ _)|refine (?_:WL _ _ _ _ _ _)|skip)
 try dsimp only [St.put,Nat.reduceAdd]
 refine WL.vl rfl (WV.call rfl (callF Tryz.func35 rfl rfl) rfl rfl (rCheck_FS p hO)) ?_
 repeat (first|refine W.go rfl ?_|refine WL.nil ?_|refine WL.ev rfl ?_|refine WL.gyes rfl rfl rfl rfl ?_|refine WL.opno rfl rfl rfl rfl rfl rfl rfl ?_|refine WL.len rfl rfl (by first|exact List.length_map _|exact List.length_replicate|rfl) ?_|refine W.condT rfl ?_|refine W.condF rfl ?_)
 (first|refine (?_:W _ _ _ _ _)|refine (?_:WL _ _ _ _ _ _)|skip)
 try dsimp only [St.put,Nat.reduceAdd]
 (refine W.cond rfl (fun hif=>?_) (fun hif=>?_)<;>(try simp only [decide_eq_true_eq,decide_eq_false_iff_not,Int.not_lt,Int.not_le,Bool.not_eq_true',Bool.not_eq_false'] at hif))
 ·have h0:pceE p≠0:=by simpa using hif
  rw [(colX_pce hs h0).1,(colX_pce hs h0).2]
  repeat (first|refine W.go rfl ?_|refine WL.nil ?_|refine WL.ev rfl ?_|refine WL.gyes rfl rfl rfl rfl ?_|refine WL.opno rfl rfl rfl rfl rfl rfl rfl ?_|refine WL.len rfl rfl (by first|exact List.length_map _|exact List.length_replicate|rfl) ?_|refine W.condT rfl ?_|refine W.condF rfl ?_)
  (first|refine (?_:W _ _ _ _ _)|refine (?_:WL _ _ _ _ _ _)|skip)
  try dsimp only [St.put,Nat.reduceAdd]
  exact W.ret (fin2 rfl rfl rfl rfl rfl rfl rfl)
 have h0:pceE p=0:=by simpa using hif
 by_cases hz:z < 0∨(p.evs.length:Int)≤z
 ·rw [(colX_arg hs (fun h=>h h0) hz).1,(colX_arg hs (fun h=>h h0) hz).2]
  by_cases hz0:z < 0
  ·repeat (first|refine W.gob rfl ?_|refine WL.nil ?_|refine WL.bt rfl rfl rfl (by omega) ?_|refine WL.bf rfl rfl rfl (by omega) ?_|refine WL.e1 rfl ?_|refine WL.gyes rfl rfl rfl rfl ?_|refine WL.opno rfl rfl rfl rfl rfl rfl rfl ?_|refine WL.len rfl rfl (by first|exact List.length_map _|exact List.length_replicate|rfl) ?_|refine W.condT rfl ?_|refine W.condF rfl ?_)
   (first|refine (?_:W _ _ _ _ _)|refine (?_:WL _ _ _ _ _ _)|skip)
   try dsimp only [St.put,Nat.reduceAdd]
   exact W.ret (fin2 rfl rfl rfl rfl rfl rfl rfl)
  ·repeat (first|refine W.gob rfl ?_|refine WL.nil ?_|refine WL.bt rfl rfl rfl (by omega) ?_|refine WL.bf rfl rfl rfl (by omega) ?_|refine WL.e1 rfl ?_|refine WL.gyes rfl rfl rfl rfl ?_|refine WL.opno rfl rfl rfl rfl rfl rfl rfl ?_|refine WL.len rfl rfl (by first|exact List.length_map _|exact List.length_replicate|rfl) ?_|refine W.condT rfl ?_|refine W.condF rfl ?_)
   (first|refine (?_:W _ _ _ _ _)|refine (?_:WL _ _ _ _ _ _)|skip)
   try dsimp only [St.put,Nat.reduceAdd]
   exact W.ret (fin2 rfl rfl rfl rfl rfl rfl rfl)
 obtain ⟨i,rfl⟩:=Int.eq_ofNat_of_zero_le (show 0≤z by omega)
 have hi:i < p.evs.length:=by omega
 have hll:=lackE_len s p i p.evs[i] (hO.n4 i hi)
 repeat (first|refine W.gob rfl ?_|refine WL.nil ?_|refine WL.bt rfl rfl rfl (by omega) ?_|refine WL.bf rfl rfl rfl (by omega) ?_|refine WL.e1 rfl ?_|refine WL.gyes rfl rfl rfl rfl ?_|refine WL.opno rfl rfl rfl rfl rfl rfl rfl ?_|refine WL.len rfl rfl (by first|exact List.length_map _|exact List.length_replicate|rfl) ?_|refine W.condT rfl ?_|refine W.condF rfl ?_)
 (first|refine (?_:W _ _ _ _ _)|refine (?_:WL _ _ _ _ _ _)|skip)
 try dsimp only [St.put,Nat.reduceAdd]
 refine WL.vl rfl (WV.call rfl (callF Tryz.func125 rfl rfl) rfl rfl (rlack_FS s hs p i hi hO h0)) ?_
 by_cases hk:lackE s p i p.evs[i]=[]
 ·rw [(colX_ok hs (fun h=>h h0) hi hk).1,(colX_ok hs (fun h=>h h0) hi hk).2,hk]
  repeat (first|refine W.gob rfl ?_|refine WL.nil ?_|refine WL.bt rfl rfl rfl (by omega) ?_|refine WL.bf rfl rfl rfl (by omega) ?_|refine WL.e1 rfl ?_|refine WL.gyes rfl rfl rfl rfl ?_|refine WL.opno rfl rfl rfl rfl rfl rfl rfl ?_|refine WL.len rfl rfl (by first|exact List.length_map _|exact List.length_replicate|rfl) ?_|refine W.condT rfl ?_|refine W.condF rfl ?_)
  (first|refine (?_:W _ _ _ _ _)|refine (?_:WL _ _ _ _ _ _)|skip)
  try dsimp only [St.put,Nat.reduceAdd]
  refine WL.vl rfl (WV.call rfl (callF Tryz.func55 rfl rfl) rfl rfl (rcolumn_FS s hs p i hi hO h0 hk)) ?_
  repeat (first|refine W.gob rfl ?_|refine WL.nil ?_|refine WL.bt rfl rfl rfl (by omega) ?_|refine WL.bf rfl rfl rfl (by omega) ?_|refine WL.e1 rfl ?_|refine WL.gyes rfl rfl rfl rfl ?_|refine WL.opno rfl rfl rfl rfl rfl rfl rfl ?_|refine WL.len rfl rfl (by first|exact List.length_map _|exact List.length_replicate|rfl) ?_|refine W.condT rfl ?_|refine W.condF rfl ?_)
  (first|refine (?_:W _ _ _ _ _)|refine (?_:WL _ _ _ _ _ _)|skip)
  try dsimp only [St.put,Nat.reduceAdd]
  exact W.ret (fin2 rfl rfl rfl rfl rfl rfl rfl)
 ·rw [(colX_no hs (fun h=>h h0) hi hk).1,(colX_no hs (fun h=>h h0) hi hk).2]
  have hpos:0 < (lackE s p i p.evs[i]).length:=List.length_pos_iff.2 hk
  repeat (first|refine W.gob rfl ?_|refine WL.nil ?_|refine WL.bt rfl rfl rfl (by omega) ?_|refine WL.bf rfl rfl rfl (by omega) ?_|refine WL.e1 rfl ?_|refine WL.gyes rfl rfl rfl rfl ?_|refine WL.opno rfl rfl rfl rfl rfl rfl rfl ?_|refine WL.len rfl rfl (by first|exact List.length_map _|exact List.length_replicate|rfl) ?_|refine W.condT rfl ?_|refine W.condF rfl ?_)
  (first|refine (?_:W _ _ _ _ _)|refine (?_:WL _ _ _ _ _ _)|skip)
  try dsimp only [St.put,Nat.reduceAdd]
  exact W.ret (fin2 rfl rfl rfl rfl rfl rfl rfl)
end Go.Proofs.YtkgnmddakiagbaaGreatDoor
