/- What Check answers of a piece: the plain part. -/
import Derived.Test.YtgelfflighgajaaGreatDoorE6Aq
import Derived.Test.YtgelfflighgajaaGreatDoorSymAq
import Derived.Test.YtgelfflighgajaaGreatDoorRefAq
import Derived.Test.YtgelfflighgajaaGreatDoorRLgAq
set_option linter.unusedVariables false
set_option linter.unusedSimpArgs false
namespace Go.Proofs.YtgelfflighgajaaGreatDoor
open Go.RowKit
def AV.pu1:AV→Bool
 | .ag l=>l.all AV.pu0
 | av=>av.pu0
def AV.pu2:AV→Bool
 | .tu l=>l.all AV.pu1
 | av=>av.pu1
theorem pu1_bd {av:AV} (h:av.pu1=true) (nk:Nat):Bd nk av:=by
 cases av with
 | ag l=>exact .ag l fun i x hx=>pu0_bd (List.all_eq_true.1 h x (List.mem_of_getElem? hx)) nk
 | _=>refine pu0_bd ?_ nk;exact h
theorem pu2_bd {av:AV} (h:av.pu2=true) (nk:Nat):Bd nk av:=by
 cases av with
 | tu l=>exact .tu l fun i x hx=>pu1_bd (List.all_eq_true.1 h x (List.mem_of_getElem? hx)) nk
 | _=>refine pu1_bd ?_ nk;exact h
def St.evs (σ:St):List Operand→Option (List AV)
 | []=>some []
 | x::r =>
  match σ.ev x,St.evs σ r with
  | some av,some l=>some (av::l)
  | _,_=>none
section
variable {P:Program} {C:Cx} {σ σ':St} {G G':Gh} {a:Act} {w w':World} {o:Oper} {d:Tmp}
theorem Ok.evl (ok:Ok C σ G a w):∀ {xs:List Operand} {l:List AV},σ.evs xs=some l→(xs.map a.eval).length=l.length∧∀ (i:Nat) av u,l[i]?=some av→(xs.map a.eval)[i]?=some u→R G av u
 | [],l,h=>by cases h;exact ⟨rfl,fun i av u h=>by simp at h⟩
 | x::r,l,h=>by
  unfold St.evs at h
  cases h1:σ.ev x with
  | none=>simp [h1] at h
  | some av =>
   cases h2:σ.evs r with
   | none=>simp [h1,h2] at h
   | some l' =>
    simp [h1,h2] at h
    subst h
    obtain ⟨e1,e2⟩:=ok.evl h2
    refine ⟨by simpa using e1,fun i y u hy hu=>?_⟩
    cases i with
    | zero=>cases hy;cases hu;exact (ok.evr h1).2
    | succ i=>exact e2 i y u (by simpa using hy) (by simpa using hu)
theorem Ok.called (ok:Ok C σ G a w) {F':View} (hb:Below w.heap.size w w') (h1:View.le G.F F') (h2:∀ p u,F' p=some u→w'.cell? p=some u) (h3:∀ p u,F' p=some u→G.F p=some u∨w.heap.size≤p.block) :
  Ok C σ { G with F:=F' } a w' :=
 ok.world (S:=fun _=>False) ⟨h1,fun _ _=>rfl,fun _ _=>rfl,fun _ _=>rfl⟩ (fun _ _=>rfl) (Kept.below hb) (fun _ h=>h.elim) (fun k o x p q=>hb.block x (ok.my k o x p q).2) h2 h3
theorem WV.call {f:FuncId} {xs:Array Operand} {ts:Array TypeId} {args:List AV} {res:AV} (ho:o.op=.call { callee:=.value (.func f),args:=xs,argTypes:=ts }) (hc:∀ vs w,(callFunc f vs).run P w=.ok (.enter f vs) w)
  (hx:σ.evs xs.toList=some args) (hp:args.all AV.pu2=true) (h:Ctr P f args res):WV P C o σ res:=by
 intro G a w ok N Q' hN
 obtain ⟨e1,e2⟩:=ok.evl hx
 have hcalls:=h w G.F (xs.toList.map a.eval) ok.fw ⟨e1,fun i av u p q=>(pu2_bd (List.all_eq_true.1 hp av (List.mem_of_getElem? p)) 0).rp (e2 i av u p q)⟩
 unfold Oper.wp execOp
 have ev:a.eval (.func f)=.func (.func f) #[] #[]:=rfl
 have e3:(#[]++xs.map a.eval++#[]:Array Value)=(xs.toList.map a.eval).toArray:=by apply Array.ext';simp
 simp only [ho,resolve,ev,Deferred.ofValue,invoke,Sem.run_bind,Sem.run_pure,Result.andThen_ok,hc,Oper.upon,e3]
 refine hcalls.mono fun e w1 ⟨v,F',he,hb,h1,h2,h3,h4⟩=>?_
 subst he
 exact hN v _ w1 (fun σ'' a'' ok''=>ok''.called hb h1 h2 h3) (.pu _ _ h4) (h4.bd _)
theorem WV.inv {f:FuncId} {x:Operand} {name:String} {t:TypeId} {rv:Value} {l:List AV} {xs:Array Operand} {ts:Array TypeId} {args:List AV} {res:AV} (ho:o.op=.call { callee:=.invoke x name,args:=xs,argTypes:=ts })
  (hr:σ.ev x=some (.sc (.iface t rv))) (hc:∀ vs w,(callMethod (.iface t rv) name vs).run P w=.ok (.enter f (#[rv]++vs)) w) (hrv:rv=.agg #[])
  (hx:σ.evs xs.toList=some args) (hp:args.all AV.pu2=true) (h:Ctr P f (.ag []::args) res):WV P C o σ res:=by
 intro G a w ok N Q' hN
 obtain ⟨e1,e2⟩:=ok.evl hx
 subst hrv
 have hcalls:=h w G.F (.agg #[]::xs.toList.map a.eval) ok.fw ⟨by simpa using e1,fun i av u p q=>by
  cases i with
  | zero=>cases p;cases q;exact .ag [] #[] rfl fun i av u h=>by simp at h
  | succ i =>
   have p:args[i]?=some av:=by simpa using p
   exact (pu2_bd (List.all_eq_true.1 hp av (List.mem_of_getElem? p)) 0).rp (e2 i av u p (by simpa using q))⟩
 unfold Oper.wp execOp
 have e4:(#[Value.iface t (.agg #[])]++xs.map a.eval:Array Value)[0]?=some (Value.iface t (.agg #[])):=by rw [Array.getElem?_append_left (by simp)];rfl
 have e5:(#[Value.iface t (.agg #[])]++xs.map a.eval:Array Value).extract 1 (#[Value.iface t (.agg #[])]++xs.map a.eval:Array Value).size=xs.map a.eval:=by
  apply Array.ext'
  simp [List.take_of_length_le]
 simp only [ho,resolve,ok.evs hr,invoke,Sem.run_bind,Sem.run_pure,Result.andThen_ok,e4,e5,hc,Oper.upon]
 have e6:(#[Value.agg #[]]++xs.map a.eval:Array Value)=(Value.agg #[]::xs.toList.map a.eval).toArray:=by
  apply Array.ext'
  first|rfl|(simp;done)|(rw [Array.toList_append];simp;done)
 rw [e6]
 refine hcalls.mono fun e w1 ⟨v,F',he,hb,h1,h2,h3,h4⟩=>?_
 subst he
 exact hN v _ w1 (fun σ'' a'' ok''=>ok''.called hb h1 h2 h3) (.pu _ _ h4) (h4.bd _)
end
/-! From one state to another: slots are forgotten, objects get other numbers. -/
def AV.ren0 (ρ:Nat→Nat):AV→AV
 | .pt k i j=>.pt (ρ k) i j
 | .sl k=>.sl (ρ k)
 | av=>av
def AV.ren1 (ρ:Nat→Nat):AV→AV
 | .fn f l=>.fn f (l.map (AV.ren0 ρ))
 | av=>av.ren0 ρ
def AV.ren2 (ρ:Nat→Nat):AV→AV
 | .ag l=>.ag (l.map (AV.ren1 ρ))
 | av=>av.ren1 ρ
def AV.ren (ρ:Nat→Nat):AV→AV
 | .tu l=>.tu (l.map (AV.ren2 ρ))
 | av=>av.ren2 ρ
def AV.in0 (nk:Nat):AV→Bool
 | .pt k _ _=>Nat.blt k nk
 | .sl k=>Nat.blt k nk
 | .ag _=>false
 | .tu _=>false
 | .fn _ _=>false
 | _=>true
def AV.in1 (nk:Nat):AV→Bool
 | .fn _ l=>l.all (AV.in0 nk)
 | av=>av.in0 nk
def AV.in2 (nk:Nat):AV→Bool
 | .ag l=>l.all (AV.in1 nk)
 | av=>av.in1 nk
def AV.inn (nk:Nat):AV→Bool
 | .tu l=>l.all (AV.in2 nk)
 | av=>av.in2 nk
def AO.ren (ρ:Nat→Nat):AO→AO
 | .box T cells=>.box T (cells.map (AV.ren1 ρ))
 | .rof T n rows hi hj x=>.rof T n rows hi hj (x.ren1 ρ)
 | ob=>ob
def AO.inn (nk:Nat):AO→Bool
 | .box _ cells=>cells.all (AV.in1 nk)
 | .row _ _ _=>true
 | .rwn _ _ _=>true
 | .rof _ _ _ _ _ x=>x.in1 nk
 | .bld _ _ _=>true
 | .opq _=>true
def TrT (σ:St) (ρ:Nat→Nat) (nk:Nat):List (Nat×AV)→Prop
 | []=>True
 | x::r=>(look x.1 σ.t=some (x.2.ren ρ)∧x.2.inn nk=true)∧TrT σ ρ nk r
def TrM (σ:St) (ρ:Nat→Nat) (nk:Nat):List (Nat×AO)→Prop
 | []=>True
 | x::r=>(look (ρ x.1) σ.M=some (x.2.ren ρ)∧x.2.inn nk=true∧Nat.blt x.1 nk=true)∧TrM σ ρ nk r
theorem in0_bd {nk:Nat} {av:AV} (h:av.in0 nk=true):Bd nk av:=by
 cases av with
 | sc v=>exact .sc v
 | ls n rows=>exact .ls n rows
 | ow T n rows=>exact .ow T n rows
 | pr cells=>exact .pr cells
 | pt k i j=>exact .pt k i j (of_blt h)
 | sl k=>exact .sl k (of_blt h)
 | _=>cases h
theorem in1_bd {nk:Nat} {av:AV} (h:av.in1 nk=true):Bd nk av:=by
 cases av with
 | fn f l=>exact .fn f l fun i x hx=>in0_bd (List.all_eq_true.1 h x (List.mem_of_getElem? hx))
 | _=>refine in0_bd ?_;exact h
theorem in2_bd {nk:Nat} {av:AV} (h:av.in2 nk=true):Bd nk av:=by
 cases av with
 | ag l=>exact .ag l fun i x hx=>in1_bd (List.all_eq_true.1 h x (List.mem_of_getElem? hx))
 | _=>refine in1_bd ?_;exact h
theorem inn_bd {nk:Nat} {av:AV} (h:av.inn nk=true):Bd nk av:=by
 cases av with
 | tu l=>exact .tu l fun i x hx=>in2_bd (List.all_eq_true.1 h x (List.mem_of_getElem? hx))
 | _=>refine in2_bd ?_;exact h
def Gh.ren (G:Gh) (ρ:Nat→Nat):Gh:=⟨G.F,fun k=>G.b (ρ k),fun k=>G.n (ρ k),fun k=>G.h (ρ k),fun k=>G.fp (ρ k)⟩
theorem R.ren0 {G:Gh} {ρ:Nat→Nat} {nk:Nat} {av:AV} {v:Value} (h:av.in0 nk=true) (r:R G (av.ren0 ρ) v):R (G.ren ρ) av v:=by
 cases av with
 | pt k i j=>obtain ⟨p,rfl,a,b,c⟩:=r.pt_of;exact .pt k i j p a b c
 | sl k=>obtain ⟨rfl,b⟩:=r.sl_of;exact R.sl (G:=G.ren ρ) k b
 | sc x=>rw [r.sc_eq];exact .pu _ _ (.sc x)
 | ls n rows=>exact .pu _ _ r.pu_of
 | pr cells=>exact .pu _ _ r.pr_of
 | ow T n rows=>exact r.no_ow.elim
 | _=>cases h
theorem R.ren1 {G:Gh} {ρ:Nat→Nat} {nk:Nat} {av:AV} {v:Value} (h:av.in1 nk=true) (r:R G (av.ren1 ρ) v):R (G.ren ρ) av v:=by
 cases av with
 | fn f l =>
  obtain ⟨cs,rfl,h1,h2⟩:=R.fn_of (l:=l.map (AV.ren0 ρ)) r
  exact .fn f l cs (by simpa using h1) fun i av u x y=>R.ren0 (List.all_eq_true.1 h av (List.mem_of_getElem? x)) (h2 i _ u (by rw [List.getElem?_map,x];rfl) y)
 | ag l=>cases h
 | tu l=>cases h
 | pt k i j=>exact R.ren0 (nk:=nk) h r
 | sl k=>exact R.ren0 (nk:=nk) h r
 | sc x=>exact R.ren0 (nk:=nk) h r
 | ls n rows=>exact R.ren0 (nk:=nk) h r
 | ow T n rows=>exact R.ren0 (nk:=nk) h r
 | pr cells=>exact R.ren0 (nk:=nk) h r
theorem R.ren2 {G:Gh} {ρ:Nat→Nat} {nk:Nat} {av:AV} {v:Value} (h:av.in2 nk=true) (r:R G (av.ren2 ρ) v):R (G.ren ρ) av v:=by
 cases av with
 | ag l =>
  obtain ⟨cs,rfl,h1,h2⟩:=R.ag_of (l:=l.map (AV.ren1 ρ)) r
  exact .ag l cs (by simpa using h1) fun i av u x y=>R.ren1 (List.all_eq_true.1 h av (List.mem_of_getElem? x)) (h2 i _ u (by rw [List.getElem?_map,x];rfl) y)
 | tu l=>cases h
 | fn f l=>exact R.ren1 (nk:=nk) h r
 | pt k i j=>exact R.ren1 (nk:=nk) h r
 | sl k=>exact R.ren1 (nk:=nk) h r
 | sc x=>exact R.ren1 (nk:=nk) h r
 | ls n rows=>exact R.ren1 (nk:=nk) h r
 | ow T n rows=>exact R.ren1 (nk:=nk) h r
 | pr cells=>exact R.ren1 (nk:=nk) h r
theorem R.ren_ {G:Gh} {ρ:Nat→Nat} {nk:Nat} {av:AV} {v:Value} (h:av.inn nk=true) (r:R G (av.ren ρ) v):R (G.ren ρ) av v:=by
 cases av with
 | tu l =>
  obtain ⟨cs,rfl,h1,h2⟩:=R.tu_of (l:=l.map (AV.ren2 ρ)) r
  exact .tu l cs (by simpa using h1) fun i av u x y=>R.ren2 (List.all_eq_true.1 h av (List.mem_of_getElem? x)) (h2 i _ u (by rw [List.getElem?_map,x];rfl) y)
 | ag l=>exact R.ren2 (nk:=nk) h r
 | fn f l=>exact R.ren2 (nk:=nk) h r
 | pt k i j=>exact R.ren2 (nk:=nk) h r
 | sl k=>exact R.ren2 (nk:=nk) h r
 | sc x=>exact R.ren2 (nk:=nk) h r
 | ls n rows=>exact R.ren2 (nk:=nk) h r
 | ow T n rows=>exact R.ren2 (nk:=nk) h r
 | pr cells=>exact R.ren2 (nk:=nk) h r
theorem CR.ren {G:Gh} {w:World} {ρ:Nat→Nat} {nk:Nat} {φ:Nat→Prop} {av:AV} {v:Value} (h:av.in1 nk=true) (r:CR G w φ (av.ren1 ρ) v):CR (G.ren ρ) w φ av v:=by
 rcases r with r|o
 ·exact .inl (R.ren1 h r)
 ·by_cases ho:av.own=true
  ·cases av with
   | ow T n rows=>exact .inr o
   | _=>cases ho
  ·have ho2:(av.ren1 ρ).own=false:=by cases av<;>first|rfl|exact absurd rfl ho
   exact .inl (R.ren1 h (.pu _ _ (OW.p o ho2)))
theorem ObAt.ren {G:Gh} {w:World} {ρ:Nat→Nat} {nk k:Nat} {ob:AO} (h:ob.inn nk=true) (g:ObAt G w (ρ k) (ob.ren ρ)):ob.bd nk∧ObAt (G.ren ρ) w k ob:=by
 cases ob with
 | box T cells =>
  obtain ⟨b1,cs,Φ,b2,b3,b4,b5,b6⟩:=g
  exact ⟨fun i av x=>in1_bd (List.all_eq_true.1 h av (List.mem_of_getElem? x)),b1,cs,Φ,b2,by simpa using b3,b4,b5,fun i av u x y=>CR.ren (List.all_eq_true.1 h av (List.mem_of_getElem? x)) (b6 i _ u (by rw [List.getElem?_map,x];rfl) y)⟩
 | row T n rows=>exact ⟨trivial,g⟩
 | rwn T n rows=>exact ⟨trivial,g⟩
 | rof T n rows hi hj y =>
  obtain ⟨g1,g2,g3⟩:=g
  refine ⟨in1_bd h,g1,g2,g3.keep (fun _ _=>rfl) fun i r j av ψ u _ _ _ x=>?_⟩
  unfold XH at x ⊢
  by_cases e:i=hi∧j=hj
  ·rw [if_pos e] at x ⊢
   exact R.ren1 h x
  ·rw [if_neg e] at x ⊢
   exact x
 | bld T e l=>exact ⟨trivial,g⟩
 | opq q=>exact ⟨trivial,g⟩
theorem TrT.at_ {σ:St} {ρ:Nat→Nat} {nk:Nat}:∀ {t:List (Nat×AV)},TrT σ ρ nk t→∀ i av,look i t=some av→look i σ.t=some (av.ren ρ)∧av.inn nk=true
 | [],_,i,av,h=>by cases h
 | x::r,ht,i,av,h=>by
  by_cases e:i=x.1
  ·subst e
   rw [show look x.1 (x::r)=some x.2 from look_set_same] at h
   cases h
   exact ht.1
  ·rw [show look i (x::r)=look i r from look_set_other e] at h
   exact TrT.at_ ht.2 i av h
theorem TrM.at_ {σ:St} {ρ:Nat→Nat} {nk:Nat}:∀ {t:List (Nat×AO)},TrM σ ρ nk t→∀ i ob,look i t=some ob→look (ρ i) σ.M=some (ob.ren ρ)∧ob.inn nk=true∧i<nk
 | [],_,i,av,h=>by cases h
 | x::r,ht,i,av,h=>by
  by_cases e:i=x.1
  ·subst e
   rw [show look x.1 (x::r)=some x.2 from look_set_same] at h
   cases h
   exact ⟨ht.1.1,ht.1.2.1,of_blt ht.1.2.2⟩
  ·rw [show look i (x::r)=look i r from look_set_other e] at h
   exact TrM.at_ ht.2 i av h
def injB (ρ:Nat→Nat):List Nat→Bool
 | []=>true
 | k::r=>r.all (fun q=>Nat.beq k q || !Nat.beq (ρ k) (ρ q)) && injB ρ r
theorem injB_spec {ρ:Nat→Nat}:∀ {l:List Nat},injB ρ l=true→∀ k q,k∈l→q∈l→ρ k=ρ q→k=q
 | [],_,k,q,h,_=>by cases h
 | x::r,h,k,q,hk,hq=>fun e=>by
  simp only [injB,Bool.and_eq_true,List.all_eq_true,Bool.or_eq_true,Bool.not_eq_true'] at h
  rcases List.mem_cons.1 hk with hk1|hk1
  ·rcases List.mem_cons.1 hq with hq1|hq1
   ·rw [hk1,hq1]
   ·rcases h.1 q hq1 with y|y
    ·rw [hk1];exact Nat.eq_of_beq_eq_true y
    ·rw [← hk1,e] at y;simp at y
  ·rcases List.mem_cons.1 hq with hq1|hq1
   ·rcases h.1 k hk1 with y|y
    ·rw [hq1];exact (Nat.eq_of_beq_eq_true y).symm
    ·rw [← hq1,e] at y;simp at y
   ·exact injB_spec h.2 k q hk1 hq1 e
theorem look_mem {α:Type}:∀ {l:List (Nat×α)} {i:Nat} {x:α},look i l=some x→i∈l.map (·.1)
 | [],i,x,h=>by cases h
 | y::r,i,x,h=>by
  by_cases e:i=y.1
  ·subst e;simp
  ·rw [show look i (y::r)=look i r from look_set_other e] at h
   have:=look_mem h
   simp only [List.map_cons,List.mem_cons];exact .inr this
def pinB (ρ:Nat→Nat) (nk:Nat):Nat→Bool
 | 0=>true
 | n+1=>Nat.beq (ρ n) n && Nat.blt n nk && pinB ρ nk n
theorem pinB_of {ρ:Nat→Nat} {nk:Nat}:∀ {n:Nat},pinB ρ nk n=true→n≤nk∧∀ k,k<n→ρ k=k
 | 0,_=>⟨Nat.zero_le _,fun k hk=>absurd hk (Nat.not_lt_zero k)⟩
 | n+1,h=>by
  simp only [pinB,Bool.and_eq_true] at h
  obtain ⟨h1,h2⟩:=pinB_of h.2
  refine ⟨of_blt h.1.2,fun k hk=>?_⟩
  by_cases e:k=n
  ·rw [e];exact Nat.eq_of_beq_eq_true h.1.1
  ·exact h2 k (by omega)
theorem Tr.ren {C:Cx} {σ σ':St} (ρ:Nat→Nat) (ht:TrT σ ρ σ'.nk σ'.t) (hm:TrM σ ρ σ'.nk σ'.M) (hi:(injB ρ (σ'.M.map (·.1)) && pinB ρ σ'.nk C.np)=true):Tr C σ σ':=fun G a w ok=>by
 rw [Bool.and_eq_true] at hi
 obtain ⟨hi,hpn⟩:=hi
 obtain ⟨hp1,hp2⟩:=pinB_of hpn
 refine ⟨G.ren ρ,ok.sz,⟨ok.df.1,hp1,fun k hk=>by
  show G.b (ρ k)=_∧G.n (ρ k)=_∧G.h (ρ k)=_
  rw [hp2 k hk];exact ok.df.2.2 k hk⟩,fun i av h=>?_,ok.bel,ok.fw,ok.f0,ok.f1,fun k ob h=>?_,fun k o x h1 h2=>?_,?_,?_⟩
 ·obtain ⟨h1,h2⟩:=ht.at_ i av h
  exact ⟨(ok.tm i _ h1).1,inn_bd h2,R.ren_ h2 (ok.tm i _ h1).2.2⟩
 ·obtain ⟨h1,h2,h3⟩:=hm.at_ k ob h
  obtain ⟨g1,g2,g3⟩:=ok.ob _ _ h1
  obtain ⟨p,q⟩:=ObAt.ren h2 g3
  exact ⟨h3,p,q⟩
 ·exact ok.my _ _ x (hm.at_ k o h1).1 h2
 ·intro k o k' o' x h1 h2 h3 h4
  have:=ok.dj _ _ _ _ x (hm.at_ k o h1).1 (hm.at_ k' o' h2).1 h3 h4
  exact injB_spec hi k k' (look_mem h1) (look_mem h2) this
 ·intro k o x p u h1 h2 h3
  exact ok.dF _ _ x p u (hm.at_ k o h1).1 h2 h3
end Go.Proofs.YtgelfflighgajaaGreatDoor
namespace Go.Proofs.YtgelfflighgajaaGreatDoor
def pS (s c f:Int):List UInt8:=if s=1 then frS c f else if s=2 then itS c f else if s=3 then spS c f else geS c f
def pOk (s c f:Int):Bool:=if s=1 then frOk c f else if s=2 then itOk c f else if s=3 then spOk c f else geOk c f
end Go.Proofs.YtgelfflighgajaaGreatDoor
namespace Go.Proofs.YtgelfflighgajaaGreatDoor
def tmLet:List UInt8:=[66,83,77,67,81,88,68]
def tW (v:Int) (i:Nat):List UInt8:=if v=0 then [45] else if i=0 then cut tmLet (v-1) v else if i=1 then cut tmLet (v-1) v++[46] else cut tmLet (v-1) v++[51]
def tOk (s v:Int) (i:Nat):Bool:=if v=0 then decide (s≠4) else (decide (i≠2) || decide (s≠4))
def sgD (i:Nat):Bool:=i == 1
def sgT (i:Nat):Bool:=i == 2
def sgOk (v:Int) (d t:Bool):Bool:=(v == 0 && !d && !t) || (decide (1≤v) && decide (v≤7) && !(d && t))
def sgI (d t:Bool):Nat:=if d then 1 else if t then 2 else 0
def tkV (v:Int) (d t:Bool):Int :=
 if v<1∨7<v∨(d && t)=true then 0 else if d then 384/2 ^ (v-1).toNat/2*3 else if t then 384/2 ^ (v-1).toNat/3*2 else 384/2 ^ (v-1).toNat
theorem tkAll:((List.range' 1 7).all fun v=>[(false,false),(true,false),(false,true)].all fun p=>decide (0<tkV (v:Nat) p.1 p.2))=true:=by decide +kernel
theorem tkV_pos (v:Int) (d t:Bool) (hv:1≤v∧v≤7) (h:(d && t)=false):0<tkV v d t:=by
 obtain ⟨v,rfl⟩:=Int.eq_ofNat_of_zero_le (show 0≤v by omega)
 have h1:=tkAll
 rw [List.all_eq_true] at h1
 have h2:=h1 v (List.mem_range'_1.2 (by omega))
 rw [List.all_eq_true] at h2
 cases d<;>cases t
 ·exact of_decide_eq_true (h2 (false,false) (by simp))
 ·exact of_decide_eq_true (h2 (false,true) (by simp))
 ·exact of_decide_eq_true (h2 (true,false) (by simp))
 ·cases h
end Go.Proofs.YtgelfflighgajaaGreatDoor
namespace Go.Proofs.YtgelfflighgajaaGreatDoor
open Go.RowKit
def lineV (s c n:Int):Int:=if s=4 then 0 else if s=2 then n+1-c else c
theorem insE_len {cs:List (Int×Int×Bool)} {st:List Int} (h:insE cs st=0):1≤cs.length∧cs.length≤14∧st.length≤18∧stepsBad 0 st=false∧crsE st cs=0:=by
 unfold insE at h
 by_cases h1:14<cs.length∨18<st.length
 ·rw [if_pos h1] at h;cases h
 ·rw [if_neg h1] at h
  by_cases h2:cs.length=0
  ·rw [if_pos h2] at h;cases h
  ·rw [if_neg h2] at h
   by_cases h3:stepsBad 0 st=true
   ·rw [if_pos h3] at h;cases h
   ·rw [if_neg h3] at h
    exact ⟨by omega,by omega,by omega,by simpa using h3,h⟩
end Go.Proofs.YtgelfflighgajaaGreatDoor
namespace Go.Proofs.YtgelfflighgajaaGreatDoor
open Go.RowKit
def fretsOf (cs:List (Int×Int×Bool)) (c:Int):Int:=(cs.getD (c.toNat-1) (0,0,false)).2.1
def stopE (p:Pce) (i:Int) (s:Stp) (last:Int):Int :=
 if s.1<1∨(p.cs.length:Int)<s.1 then 12
 else if s.2.1<0∨fretsOf p.cs s.1<s.2.1 then 13
 else if s.1≤last then 22
 else if (s.2.2.1<0∨3<s.2.2.1)∨(s.2.2.2.1<0∨4<s.2.2.2.1) then 23
 else if (s.2.2.2.2<0∨(longestN p.evs i s.1:Int)<s.2.2.2.2)∨(0<s.2.2.2.2∧s.2.1=0) then 24
 else 0
def stopsE (p:Pce) (i:Int):Int→List Stp→Int
 | _,[]=>0
 | last,s::r=>if stopE p i s last≠0 then stopE p i s last else stopsE p i s.1 r
def evE (p:Pce) (i:Int) (e:Ev):Int :=
 if sgOk e.val e.dot e.three=false∨(i=0∧e.val=0) then 20
 else if e.tie=true∧(0<e.stops.length∨i=0) then 21
 else stopsE p i 0 e.stops
def evsE (p:Pce):Nat→List Ev→Int
 | _,[]=>0
 | i,e::r=>if evE p i e≠0 then evE p i e else evsE p (i+1) r
def pceE (p:Pce):Int:=if insE p.cs p.st≠0 then insE p.cs p.st else if 400<p.evs.length then 2 else evsE p 0 p.evs
theorem stopsE_at {p:Pce} {i last:Int} {l:List Stp} {k:Nat} (h:k<l.length):stopsE p i last (l.drop k)=if stopE p i l[k] last≠0 then stopE p i l[k] last else stopsE p i l[k].1 (l.drop (k+1)):=by
 rw [List.drop_eq_getElem_cons h];rfl
theorem evsE_at {p:Pce} {l:List Ev} {k:Nat} (h:k<l.length):evsE p k (l.drop k)=if evE p k l[k]≠0 then evE p k l[k] else evsE p (k+1) (l.drop (k+1)):=by
 rw [List.drop_eq_getElem_cons h];rfl
section
variable {p:Pce} {i last:Int} {s:Stp}
theorem stopE_crs (h:s.1<1∨(p.cs.length:Int)<s.1):stopE p i s last=12:=if_pos h
theorem stopE_fret (h:¬ (s.1<1∨(p.cs.length:Int)<s.1)) (h1:s.2.1<0∨fretsOf p.cs s.1<s.2.1):stopE p i s last=13:=by unfold stopE;rw [if_neg h,if_pos h1]
theorem stopE_order (h:¬ (s.1<1∨(p.cs.length:Int)<s.1)) (h1:¬ (s.2.1<0∨fretsOf p.cs s.1<s.2.1)) (h2:s.1≤last):stopE p i s last=22:=by unfold stopE;rw [if_neg h,if_neg h1,if_pos h2]
theorem stopE_mark (h:¬ (s.1<1∨(p.cs.length:Int)<s.1)) (h1:¬ (s.2.1<0∨fretsOf p.cs s.1<s.2.1)) (h2:¬ s.1≤last) (h3:(s.2.2.1<0∨3<s.2.2.1)∨(s.2.2.2.1<0∨4<s.2.2.2.1)):stopE p i s last=23:=by unfold stopE;rw [if_neg h,if_neg h1,if_neg h2,if_pos h3]
theorem stopE_hold (h:¬ (s.1<1∨(p.cs.length:Int)<s.1)) (h1:¬ (s.2.1<0∨fretsOf p.cs s.1<s.2.1)) (h2:¬ s.1≤last) (h3:¬ ((s.2.2.1<0∨3<s.2.2.1)∨(s.2.2.2.1<0∨4<s.2.2.2.1)))
  (h4:(s.2.2.2.2<0∨(longestN p.evs i s.1:Int)<s.2.2.2.2)∨(0<s.2.2.2.2∧s.2.1=0)):stopE p i s last=24:=by unfold stopE;rw [if_neg h,if_neg h1,if_neg h2,if_neg h3,if_pos h4]
theorem stopE_ok (h:¬ (s.1<1∨(p.cs.length:Int)<s.1)) (h1:¬ (s.2.1<0∨fretsOf p.cs s.1<s.2.1)) (h2:¬ s.1≤last) (h3:¬ ((s.2.2.1<0∨3<s.2.2.1)∨(s.2.2.2.1<0∨4<s.2.2.2.1)))
  (h4:¬ ((s.2.2.2.2<0∨(longestN p.evs i s.1:Int)<s.2.2.2.2)∨(0<s.2.2.2.2∧s.2.1=0))):stopE p i s last=0:=by unfold stopE;rw [if_neg h,if_neg h1,if_neg h2,if_neg h3,if_neg h4]
end
theorem fretsOf_at {cs:List (Int×Int×Bool)} {q:Nat} (h:q<cs.length):fretsOf cs ((q:Int)+1)=cs[q].2.1:=by
 unfold fretsOf
 have:((q:Int)+1).toNat-1=q:=by omega
 rw [this,List.getD_eq_getElem?_getD,List.getElem?_eq_getElem h];rfl
end Go.Proofs.YtgelfflighgajaaGreatDoor
