/- The column of an event: plain words. -/
import Derived.Test.YtgelfflighgajaaGreatDoorEWSq
import Derived.Test.YtgelfflighgajaaGreatDoorJnSq
set_option linter.unusedVariables false
set_option linter.unusedSimpArgs false
namespace Go.Proofs.YtgelfflighgajaaGreatDoor
open Go.RowKit
theorem crsE_fr {st:List Int}:∀ {cs:List (Int×Int×Bool)},crsE st cs=0→∀ k (h:k<cs.length),0≤cs[k].2.1∧cs[k].2.1≤st.length:=by
 intro cs
 induction cs with
 | nil=>intro _ k h;simp at h
 | cons x r ih =>
  intro h k hk
  unfold crsE at h
  by_cases h1:x.2.1<0∨(st.length:Int)<x.2.1
  ·rw [if_pos h1] at h;cases h
  ·rw [if_neg h1] at h
   by_cases h2:(x.1<0∨127<x.1)∨127<topOf st x
   ·rw [if_pos h2] at h;cases h
   ·rw [if_neg h2] at h
    cases k with
    | zero=>simp;omega
    | succ k=>simpa using ih h k (by simpa using hk)
theorem stopE_bd {p:Pce} {i last:Int} {s:Stp} (hI:insE p.cs p.st=0) (h:stopE p i s last=0) :
  (1≤s.1∧s.1≤14)∧(0≤s.2.1∧s.2.1≤18)∧(0≤s.2.2.1∧s.2.2.1≤3)∧(0≤s.2.2.2.1∧s.2.2.2.1≤4)∧(0≤s.2.2.2.2∧s.2.2.2.2≤15):=by
 obtain ⟨l1,l2,l3,_,l5⟩:=insE_len hI
 unfold stopE at h
 by_cases h1:s.1<1∨(p.cs.length:Int)<s.1
 ·rw [if_pos h1] at h;cases h
 ·rw [if_neg h1] at h
  by_cases h2:s.2.1<0∨fretsOf p.cs s.1<s.2.1
  ·rw [if_pos h2] at h;cases h
  ·rw [if_neg h2] at h
   by_cases h3:s.1≤last
   ·rw [if_pos h3] at h;cases h
   ·rw [if_neg h3] at h
    by_cases h4:(s.2.2.1<0∨3<s.2.2.1)∨(s.2.2.2.1<0∨4<s.2.2.2.1)
    ·rw [if_pos h4] at h;cases h
    ·rw [if_neg h4] at h
     by_cases h5:(s.2.2.2.2<0∨(longestN p.evs i s.1:Int)<s.2.2.2.2)∨(0<s.2.2.2.2∧s.2.1=0)
     ·rw [if_pos h5] at h;cases h
     ·have hL:=longestN_le p.evs i s.1
      have hk:s.1.toNat-1<p.cs.length:=by omega
      have hf:fretsOf p.cs s.1=p.cs[s.1.toNat-1].2.1:=by
       have:=fretsOf_at hk
       rw [← this];congr 1;omega
      have:=crsE_fr l5 _ hk
      refine ⟨⟨by omega,by omega⟩,⟨by omega,by omega⟩,⟨by omega,by omega⟩,⟨by omega,by omega⟩,by omega,by omega⟩
theorem stopsE_bd {p:Pce} {i:Int} (hI:insE p.cs p.st=0):∀ {l:List Stp} {last:Int},stopsE p i last l=0→∀ k (h:k<l.length),∃ la,stopE p i l[k] la=0:=by
 intro l
 induction l with
 | nil=>intro _ _ k h;simp at h
 | cons x r ih =>
  intro last h k hk
  unfold stopsE at h
  by_cases h1:stopE p i x last≠0
  ·rw [if_pos h1] at h;exact absurd h h1
  ·rw [if_neg h1] at h
   cases k with
   | zero=>exact ⟨last,by simpa using h1⟩
   | succ k=>simpa using ih h k (by simpa using hk)
theorem evsE_bd {p:Pce}:∀ {l:List Ev} {n:Nat},evsE p n l=0→∀ k (h:k<l.length),evE p ((n+k:Nat):Int) l[k]=0:=by
 intro l
 induction l with
 | nil=>intro _ _ k h;simp at h
 | cons x r ih =>
  intro n h k hk
  unfold evsE at h
  by_cases h1:evE p n x≠0
  ·rw [if_pos h1] at h;exact absurd h h1
  ·rw [if_neg h1] at h
   cases k with
   | zero=>simpa using h1
   | succ k =>
    have:=ih h k (by simpa using hk)
    rw [show n+1+k=n+(k+1) by omega] at this
    simpa using this
theorem pceE_zero {p:Pce} (h:pceE p=0):insE p.cs p.st=0∧p.evs.length≤400∧∀ k (hk:k<p.evs.length),evE p k p.evs[k]=0:=by
 unfold pceE at h
 by_cases h1:insE p.cs p.st≠0
 ·rw [if_pos h1] at h;exact absurd h h1
 ·rw [if_neg h1] at h
  by_cases h2:400<p.evs.length
  ·rw [if_pos h2] at h;cases h
  ·rw [if_neg h2] at h
   refine ⟨by simpa using h1,by omega,fun k hk=>?_⟩
   have:=evsE_bd h k hk
   simpa using this
theorem evE_zero {p:Pce} {i:Int} {e:Ev} (h:evE p i e=0):sgOk e.val e.dot e.three=true∧¬ (i=0∧e.val=0)∧¬ (e.tie=true∧(0<e.stops.length∨i=0))∧stopsE p i 0 e.stops=0:=by
 unfold evE at h
 by_cases h1:sgOk e.val e.dot e.three=false∨(i=0∧e.val=0)
 ·rw [if_pos h1] at h;cases h
 ·rw [if_neg h1] at h
  by_cases h2:e.tie=true∧(0<e.stops.length∨i=0)
  ·rw [if_pos h2] at h;cases h
  ·rw [if_neg h2] at h
   refine ⟨?_,fun x=>h1 (.inr x),h2,h⟩
   cases hs:sgOk e.val e.dot e.three with
   | true=>rfl
   | false=>exact absurd (.inl hs) h1
theorem stopsIn_of {p:Pce} (h:pceE p=0) (k:Nat) (hk:k<p.evs.length):StopsIn p.evs[k]:=by
 obtain ⟨h1,h2,h3⟩:=pceE_zero h
 intro j hj
 obtain ⟨la,hla⟩:=stopsE_bd h1 (evE_zero (h3 k hk)).2.2.2 j hj
 exact stopE_bd h1 hla
def lksTo (s:Int) (p:Pce):Nat→List Lck
 | 0=>[]
 | k+1=>lksTo s p k++(match p.evs[k]? with|some e=>lackE s p k e|none=>[])
theorem lksTo_at (s:Int) (p:Pce) {k:Nat} (h:k<p.evs.length):lksTo s p (k+1)=lksTo s p k++lackE s p k p.evs[k]:=by
 show lksTo s p k++_=_
 rw [List.getElem?_eq_getElem h]
theorem lackE_len (s:Int) (p:Pce) (i:Int) (e:Ev) (h:e.stops.length≤20):(lackE s p i e).length≤63:=by
 rw [lackE_eq]
 have a:=lk1_len s i e.val
 have b:=lk2_len s i e.three
 have c:=lk3_len s i e.tie e.stops.length
 have d:=flat_len s i (fun c=>longestN p.evs i c) e.stops
 simp only [List.length_append];omega
theorem lksTo_len (s:Int) {p:Pce} (hO:PcOk p):∀ k,k≤p.evs.length→(lksTo s p k).length≤27000:=by
 have hn:=hO.n3
 have:∀ k,k≤p.evs.length→(lksTo s p k).length≤63*k:=by
  intro k
  induction k with
  | zero=>intro _;simp [lksTo]
  | succ k ih =>
   intro hk
   rw [lksTo_at s p (by omega),List.length_append]
   have:=ih (by omega)
   have:=lackE_len s p k p.evs[k] (hO.n4 k (by omega))
   omega
 intro k hk
 have:=this k hk
 omega
end Go.Proofs.YtgelfflighgajaaGreatDoor
namespace Go.Proofs.YtgelfflighgajaaGreatDoor
open Go.RowKit
structure StpOk (p:Pce) (k:Nat) (x:Stp):Prop where
 crs:1≤x.1∧x.1≤p.cs.length
 c14:x.1≤14
 fret:0≤x.2.1∧x.2.1≤fretsOf p.cs x.1
 f18:x.2.1≤18
 hold:0≤x.2.2.2.2∧x.2.2.2.2≤longestN p.evs k x.1
 h0:0<x.2.2.2.2→x.2.1≠0
theorem stpOk_of {p:Pce} {i:Nat} {last:Int} {s:Stp} (hI:insE p.cs p.st=0) (h:stopE p i s last=0):StpOk p i s∧last<s.1:=by
 have hb:=stopE_bd hI h
 unfold stopE at h
 by_cases h1:s.1<1∨(p.cs.length:Int)<s.1
 ·rw [if_pos h1] at h;cases h
 ·rw [if_neg h1] at h
  by_cases h2:s.2.1<0∨fretsOf p.cs s.1<s.2.1
  ·rw [if_pos h2] at h;cases h
  ·rw [if_neg h2] at h
   by_cases h3:s.1≤last
   ·rw [if_pos h3] at h;cases h
   ·rw [if_neg h3] at h
    by_cases h4:(s.2.2.1<0∨3<s.2.2.1)∨(s.2.2.2.1<0∨4<s.2.2.2.1)
    ·rw [if_pos h4] at h;cases h
    ·rw [if_neg h4] at h
     by_cases h5:(s.2.2.2.2<0∨(longestN p.evs i s.1:Int)<s.2.2.2.2)∨(0<s.2.2.2.2∧s.2.1=0)
     ·rw [if_pos h5] at h;cases h
     ·exact ⟨⟨by omega,by omega,by omega,by omega,by omega,by omega⟩,by omega⟩
theorem stopsE_ok {p:Pce} {i:Nat} (hI:insE p.cs p.st=0):∀ {l:List Stp} {last:Int},stopsE p i last l=0→(∀ x∈l,StpOk p i x∧last<x.1)∧l.Pairwise fun x y=>x.1<y.1:=by
 intro l
 induction l with
 | nil=>intro _ _;exact ⟨fun x hx=>(by cases hx),.nil⟩
 | cons x r ih =>
  intro last h
  unfold stopsE at h
  by_cases h1:stopE p i x last≠0
  ·rw [if_pos h1] at h;exact absurd h h1
  ·rw [if_neg h1] at h
   have hx:=stpOk_of hI (by simpa using h1:stopE p i x last=0)
   obtain ⟨q1,q2⟩:=ih h
   refine ⟨fun y hy=>?_,.cons (fun y hy=>(q1 y hy).2) q2⟩
   rcases List.mem_cons.1 hy with rfl|hy
   ·exact hx
   ·exact ⟨(q1 y hy).1,by have:=(q1 y hy).2;omega⟩
structure EvOk (p:Pce) (k:Nat) (e:Ev):Prop where
 sg:sgOk e.val e.dot e.three=true
 first:¬ ((k:Int)=0∧e.val=0)
 tie:e.tie=true→e.stops=[]∧0<k
 stops:∀ x∈e.stops,StpOk p k x
 asc:e.stops.Pairwise fun x y=>x.1<y.1
theorem evOk_of {p:Pce} (h:pceE p=0) {k:Nat} (hk:k<p.evs.length):EvOk p k p.evs[k]:=by
 obtain ⟨h1,h2,h3⟩:=pceE_zero h
 obtain ⟨a,b,c,d⟩:=evE_zero (h3 k hk)
 obtain ⟨q1,q2⟩:=stopsE_ok h1 d
 refine ⟨a,b,fun ht=>?_,fun x hx=>(q1 x hx).1,q2⟩
 have:¬ (0<p.evs[k].stops.length∨(k:Int)=0):=fun hh=>c ⟨ht,hh⟩
 exact ⟨List.eq_nil_of_length_eq_zero (by omega),by omega⟩
theorem runL_le' (c:Int):∀ (n:Nat) (l:List Ev),runL c n l≤l.length:=by
 intro n
 induction n with
 | zero=>intro l;unfold runL;first|exact Nat.zero_le _|(split<;>exact Nat.zero_le _)
 | succ n ih =>
  intro l
  cases l with
  | nil=>simp [runL]
  | cons e r =>
   unfold runL
   split
   ·exact Nat.zero_le _
   ·have:=ih r;simp;omega
theorem longestN_end {evs:List Ev} {i:Nat} (h:i<evs.length) (c:Int):i+longestN evs i c+1≤evs.length:=by
 unfold longestN
 rw [if_neg (by omega)]
 have:=runL_le' c 15 (evs.drop ((i:Int).toNat+1))
 simp only [Int.toNat_natCast,List.length_drop] at this ⊢
 omega
end Go.Proofs.YtgelfflighgajaaGreatDoor
namespace Go.Proofs.YtgelfflighgajaaGreatDoor
open Go.RowKit
def onB:AV→Bool
 | .sc v=>v.oneCell'
 | .ls _ _=>true
 | _=>false
def lendP (M:List (Nat×AO)):AV→AV
 | .pt k 0 0=>match look k M with
  | some (.box _ cells)=>bif cells.all onB then .pr cells else .pt k 0 0
  | _=>.pt k 0 0
 | av=>lendB M av
def lendC (M:List (Nat×AO)):AV→AV
 | .fn f l=>.fn f (l.map (lendP M))
 | av=>lendP M av
section
variable {B:World→View→Prop} {gl:Nat} {P:Program} {C:Cx} {ops:Array Oper} {rest:List Oper} {σ σ':St} {G G':Gh} {a:Act} {w w':World} {o:Oper} {d:Tmp} {Q:Exit→St→Prop}
theorem onB_of {av:AV} {u:Value} (h:onB av=true) (r:R G av u):u.oneCell'=true∧RP G.F av u∧av.own=false:=by
 cases av with
 | sc v =>
  obtain rfl:=r.sc_eq
  exact ⟨h,.sc _,rfl⟩
 | ls n rows =>
  have h2:RP G.F (.ls n rows) u:=(pu2_bd (av:=.ls n rows) rfl 0).rp r
  obtain ⟨A,cap,ad,u',rfl,_⟩:=h2.ls_of
  exact ⟨rfl,h2,rfl⟩
 | _=>cases h
theorem lendP_rp (ok:Ok C σ G a w) {av:AV} {v:Value} (h:R G av v) (hp:(lendP σ.M av).pu2=true):RP (fun q=>w.cell? q) (lendP σ.M av) v:=by
 have hF:G.F.le fun q=>w.cell? q:=fun p u x=>ok.fw p u x
 cases av with
 | pt k i j =>
  cases i with
  | succ i=>exact lend_rp ok h hp
  | zero =>
   cases j with
   | succ j=>exact lend_rp ok h hp
   | zero =>
    cases hk:look k σ.M with
    | none =>
     have e:lendP σ.M (.pt k 0 0)=.pt k 0 0:=by simp only [lendP,hk]
     rw [e] at hp;cases hp
    | some ob =>
     cases ob with
     | box T cells =>
      have e:lendP σ.M (.pt k 0 0)=bif cells.all onB then .pr cells else .pt k 0 0:=by simp only [lendP,hk]
      rw [e] at hp ⊢
      cases hc:cells.all onB with
      | false=>rw [hc] at hp;cases hp
      | true =>
       obtain ⟨p,rfl,h1,h2,h3⟩:=h.pt_of
       have hcell:∀ (j:Nat) av,cells[j]?=some av→∃ u,w.cell? (p.add j)=some u∧u.oneCell'=true∧RP G.F av u:=fun j av hj=>by
        have hb:=List.all_eq_true.1 hc av (List.mem_of_getElem? hj)
        have ho:av.own=false:=by cases av<;>first|rfl|cases hb
        obtain ⟨u,hu,hr,_⟩:=ok.cell (i:=0) (j:=0) (l:=cells) hk rfl hj h1 h2 h3 ho
        obtain ⟨q1,q2,_⟩:=onB_of hb hr
        exact ⟨u,hu,q1,q2⟩
       show RP _ (.pr cells) _
       refine .pr cells p (fun j=>(w.cell? (p.add j)).getD undef) (fun j av hj=>?_) (fun j av hj=>?_)
       ·obtain ⟨u,hu,q1,q2⟩:=hcell j av hj
        rw [hu];exact ⟨rfl,q1⟩
       ·obtain ⟨u,hu,q1,q2⟩:=hcell j av hj
        rw [hu];exact q2.mono hF
     | _ =>
      have e:lendP σ.M (.pt k 0 0)=.pt k 0 0:=by simp only [lendP,hk]
      rw [e] at hp;cases hp
 | _=>exact lend_rp ok h hp
theorem lendC_rp (ok:Ok C σ G a w) {av:AV} {v:Value} (h:R G av v) (hp:(lendC σ.M av).pu2=true):RP (fun q=>w.cell? q) (lendC σ.M av) v:=by
 cases av with
 | fn f l =>
  obtain ⟨cs,rfl,h1,h2⟩:=h.fn_of
  show RP _ (.fn f (l.map (lendP σ.M))) _
  refine .fn f _ cs (by rw [h1,List.length_map]) fun i av u a b=>?_
  rw [List.getElem?_map] at a
  cases hi:l[i]? with
  | none=>simp [hi] at a
  | some av0 =>
   simp only [hi,Option.map_some,Option.some.injEq] at a
   subst a
   refine lendP_rp ok (h2 i av0 u hi b) ?_
   have hall:(l.map (lendP σ.M)).all AV.pu00=true:=hp
   have h3:(lendP σ.M av0).pu00=true:=List.all_eq_true.1 hall _ (List.mem_of_getElem? (by rw [List.getElem?_map,hi];rfl))
   generalize lendP σ.M av0=q at h3 ⊢
   cases q<;>first|rfl|cases h3
 | _=>exact lendP_rp ok h hp
theorem WV.lendV (hB:Holds B gl C) {f:FuncId} {y:Operand} {fv:AV} {xs:Array Operand} {ts:Array TypeId} {args0 caps args args':List AV} {res:Value} (ho:o.op=.call { callee:=.value y,args:=xs,argTypes:=ts }) (hc:∀ vs w,(callFunc f vs).run P w=.ok (.enter f vs) w)
  (hy:σ.ev y=some fv) (hf:fnOf fv=some (f,caps)) (hx:σ.evs xs.toList=some args0) (hcat:args0++caps=args) (hl:args.map (lendC σ.M)=args') (hp:args'.all AV.pu2=true) (hst:∀ w F F',View.le F F'→B w F→B w F') (h:Ctg B P f args' (.sc res)):WV P C o σ (.sc res):=by
 intro G a w ok N Q' hN
 obtain ⟨cs,ey,h1,h2⟩:=fnOf_of hf (ok.evr hy).2
 obtain ⟨e1,e2⟩:=ok.evl2 hx h1 h2 hcat
 subst hl
 have hF:G.F.le fun q=>w.cell? q:=fun p u x=>ok.fw p u x
 refine call_wp ho hc ey (h w (fun q=>w.cell? q) _ (hst w _ _ hF (hB.1 w G.F ok.bel ok.f0)) (fun _ _ x=>x) ⟨by rw [e1,List.length_map],fun i av u p q=>?_⟩) fun e w1 ⟨v,F',he,hb,h1,h2,h3,h4⟩=>?_
 ·rw [List.getElem?_map] at p
  cases hi:args[i]? with
  | none=>simp [hi] at p
  | some av0 =>
   simp only [hi,Option.map_some,Option.some.injEq] at p
   subst p
   exact lendC_rp ok (e2 i av0 u hi q) (List.all_eq_true.1 hp _ (List.mem_of_getElem? (by rw [List.getElem?_map,hi];rfl)))
 ·have hv:=h4.sc_eq
  subst hv
  exact ⟨_,he,hN _ { G with F:=G.F } w1 (fun σ'' a'' ok''=>ok''.called hb (fun _ _ x=>x) (fun p u x=>by rw [hb.cell (cell_block (ok.fw p u x))];exact ok.fw p u x) (fun _ _ x=>.inl x)) (.pu _ _ (.sc _)) (RP.bd (F:=G.F) (.sc _) _)⟩
end
end Go.Proofs.YtgelfflighgajaaGreatDoor
namespace Go.Proofs.YtgelfflighgajaaGreatDoor
open Go.RowKit
set_option maxRecDepth 100000
set_option maxHeartbeats 8000000
theorem rRight2_FS (v:Int) (d t:Bool):Ctr Tryz.prog 137 [.ag [.sc (.int .i64 v),.sc (.bool d),.sc (.bool t)]] (.sc (.bool (sgOk v d t))):=by
 intro w F vs hF hR
 match vs,hR.1 with
 | [x],_ =>
  obtain ⟨cs,rfl,h1,h2⟩:∃ cs:Array Value,x=.agg cs∧cs.size=3∧∀ (i:Nat) av u,[AV.sc (.int .i64 v),.sc (.bool d),.sc (.bool t)][i]?=some av→cs[i]?=some u→RP F av u:=by
   cases hR.2 0 _ x rfl rfl with|ag l cs a b=>exact ⟨cs,rfl,a,b⟩
  have g:∀ i (h:i<3),cs[i]?=some (cs[i]'(by omega)):=fun i h=>Array.getElem?_eq_getElem (by omega)
  have e:cs=#[.int .i64 v,.bool d,.bool t]:=by
   apply Array.ext (by simp [h1])
   intro i hi hi2
   match i,(show i<3 by omega) with
   | 0,_=>exact (h2 0 _ _ rfl (g 0 (by omega))).sc_eq
   | 1,_=>exact (h2 1 _ _ rfl (g 1 (by omega))).sc_eq
   | 2,_=>exact (h2 2 _ _ rfl (g 2 (by omega))).sc_eq
  subst e
  exact (right_any v d t w).mono fun e w' ⟨he,hb⟩=>⟨_,F,he,hb,fun _ _ h=>h,fun p u x=>by rw [hb.cell (cell_block (hF p u x))];exact hF p u x,fun _ _ h=>.inl h,.sc _⟩
theorem ev_of_rp {F:View} {w:World} {e:Ev} {v:Value} (hF:∀ p u,F p=some u→w.cell? p=some u) (r:RP F (.ag (eEv e)) v):∃ S c,v=evVal e S c:=by
 obtain ⟨cs,rfl,h1,h2⟩:∃ cs:Array Value,v=.agg cs∧cs.size=6∧∀ (i:Nat) av u,(eEv e)[i]?=some av→cs[i]?=some u→RP F av u:=by
  cases r with|ag l cs a b=>exact ⟨cs,rfl,a,b⟩
 have g:∀ i (h:i<6),cs[i]?=some (cs[i]'(by omega)):=fun i h=>Array.getElem?_eq_getElem (by omega)
 obtain ⟨A,c,e5,_,_⟩:=stps_of_rp hF (h2 5 _ _ rfl (g 5 (by omega)))
 refine ⟨A,c,?_⟩
 unfold evVal
 congr 1
 apply Array.ext (by simp [h1])
 intro i hi hi2
 match i,(show i<6 by omega) with
 | 0,_=>exact (h2 0 _ _ rfl (g 0 (by omega))).sc_eq
 | 1,_=>exact (h2 1 _ _ rfl (g 1 (by omega))).sc_eq
 | 2,_=>exact (h2 2 _ _ rfl (g 2 (by omega))).sc_eq
 | 3,_=>exact (h2 3 _ _ rfl (g 3 (by omega))).sc_eq
 | 4,_=>exact (h2 4 _ _ rfl (g 4 (by omega))).sc_eq
 | 5,_=>exact e5
theorem rest_FS (e:Ev):Ctr Tryz.prog 147 [.ag (eEv e)] (.sc (.bool (restB e))):=by
 intro w F vs hF hR
 match vs,hR.1 with
 | [v],_ =>
  obtain ⟨S,c,rfl⟩:=ev_of_rp hF (hR.2 0 _ v rfl rfl)
  exact (rRest_any e S c w).mono fun e w' ⟨he,hb⟩=>⟨_,F,he,hb,fun _ _ h=>h,fun p u x=>by rw [hb.cell (cell_block (hF p u x))];exact hF p u x,fun _ _ h=>.inl h,.sc _⟩
theorem rLong_FS (p:Pce) (hO:PcOk p) (i x:Int):Ctr Tryz.prog 86 [ePce p,.sc (.int .i64 i),.sc (.int .i64 x)] (.sc (.int .i64 (longestN p.evs i x))) :=
 Ctr.of_pc (pre:=[]) (post:=[.sc (.int .i64 i),.sc (.int .i64 x)]) rfl rfl (fun _=>.sc _) fun w M hM=>rLongest_any M p i x w hM hO
end Go.Proofs.YtgelfflighgajaaGreatDoor
namespace Go.Proofs.YtgelfflighgajaaGreatDoor
open Go.RowKit
def sp (t:List UInt8):List UInt8:=32::t
def stT (s:Int) (L:Int→Nat) (x:Stp):List UInt8:=cellS s x.1 x.2.1 x.2.2.1 x.2.2.2.1 x.2.2.2.2 (L x.1)
def stK (s:Int) (L:Int→Nat) (x:Stp):Bool:=cellOk s x.1 x.2.1 x.2.2.1 x.2.2.2.1 x.2.2.2.2 (L x.1)
def stOn (l:List Stp) (c:Int):Option Stp:=l.find? fun x=>x.1 == c
def stF (s:Int) (L:Int→Nat) (l:List Stp) (c:Int):List UInt8 :=
 match stOn l c with
 | some x=>stT s L x
 | none=>[45]
def asc:Int→List Stp→Prop
 | _,[]=>True
 | m,x::r=>m<x.1∧asc x.1 r
theorem asc_of {p:Pce} {i:Int}:∀ {l:List Stp} {last:Int},stopsE p i last l=0→asc last l
 | [],_,_=>trivial
 | x::r,last,h=>by
  unfold stopsE at h
  by_cases h1:stopE p i x last≠0
  ·rw [if_pos h1] at h;exact absurd h h1
  ·rw [if_neg h1] at h
   refine ⟨?_,asc_of h⟩
   by_cases h2:last<x.1
   ·exact h2
   ·exfalso;apply h1
    unfold stopE
    split
    ·decide
    ·split
     ·decide
     ·rw [if_pos (by omega)];decide
theorem asc_lt:∀ {l:List Stp} {m:Int},asc m l→∀ x∈l,m<x.1
 | y::r,m,h,x,hx=>by
  rcases List.mem_cons.1 hx with rfl|hx
  ·exact h.1
  ·have:=asc_lt h.2 x hx;have:=h.1;omega
theorem asc_take {l:List Stp}:∀ {m:Int} (k:Nat) (h:k<l.length),asc m l→∀ x∈l.take k,x.1<l[k].1:=by
 induction l with
 | nil=>intro m k h;simp at h
 | cons y r ih =>
  intro m k h ha x hx
  cases k with
  | zero=>simp at hx
  | succ k =>
   simp only [List.take_succ_cons,List.mem_cons] at hx
   rcases hx with rfl|hx
   ·exact asc_lt ha.2 _ (by simp)
   ·simpa using ih k (by simpa using h) ha.2 x hx
theorem stOn_none {l:List Stp} {c:Int} (h:∀ x∈l,x.1≠c):stOn l c=none:=by
 unfold stOn
 rw [List.find?_eq_none]
 intro x hx
 simpa using h x hx
theorem stOn_snoc (l:List Stp) (x:Stp) (c:Int) (h:∀ y∈l,y.1<x.1):stOn (l++[x]) c=if c=x.1 then some x else stOn l c:=by
 by_cases e:c=x.1
 ·rw [if_pos e]
  have h0:stOn l c=none:=stOn_none fun y hy=>by have:=h y hy;omega
  unfold stOn at h0 ⊢
  rw [List.find?_append,h0]
  simp [e]
 ·rw [if_neg e]
  unfold stOn
  rw [List.find?_append]
  have:[x].find? (fun y=>y.1 == c)=none:=by simp;omega
  rw [this,Option.or_none]
theorem stF_snoc (s:Int) (L:Int→Nat) (l:List Stp) (x:Stp) (c:Int) (h:∀ y∈l,y.1<x.1):stF s L (l++[x]) c=if c=x.1 then stT s L x else stF s L l c:=by
 unfold stF
 rw [stOn_snoc l x c h]
 by_cases e:c=x.1
 ·rw [if_pos e,if_pos e]
 ·rw [if_neg e,if_neg e]
def cAt (s:Int) (n j:Nat):Int:=if s=2 then (n:Int)-j else (j:Int)+1
def staffL (s:Int) (L:Int→Nat) (n:Nat) (l:List Stp):List (List UInt8):=(List.range n).map fun j=>stF s L l (cAt s n j)
theorem staffL_nil (s:Int) (L:Int→Nat) (n:Nat):staffL s L n []=List.replicate n [45]:=by
 unfold staffL
 apply List.ext_getElem
 ·simp
 ·intro i h1 h2;simp [stF,stOn]
theorem staffL_snoc (s:Int) (L:Int→Nat) (n:Nat) (l:List Stp) (x:Stp) (hs:s≠4) (h:∀ y∈l,y.1<x.1) (h1:1≤x.1) (hn:x.1≤n):staffL s L n (l++[x])=(staffL s L n l).set (lineV s x.1 n-1).toNat (stT s L x):=by
 apply List.ext_getElem
 ·simp [staffL]
 ·intro j h2 h3
  have hj:j<n:=by simpa [staffL] using h2
  rw [List.getElem_set]
  simp only [staffL,List.getElem_map,List.getElem_range]
  rw [stF_snoc s L l x _ h]
  have e:cAt s n j=x.1↔(lineV s x.1 n-1).toNat=j:=by
   unfold cAt lineV
   rw [if_neg hs]
   by_cases e2:s=2
   ·rw [if_pos e2,if_pos e2];omega
   ·rw [if_neg e2,if_neg e2];omega
  by_cases e3:cAt s n j=x.1
  ·rw [if_pos e3,if_pos (e.1 e3)]
  ·rw [if_neg e3,if_neg (fun q=>e3 (e.2 q))]
def outL (s:Int) (L:Int→Nat) (n:Nat) (l:List Stp):List (List UInt8) :=
 if s=2 then ((l.filter fun x=>decide ((n:Int)<x.1)).map (stT s L)).reverse else (l.filter fun x=>decide ((n:Int)<x.1)).map (stT s L)
theorem outL_in (s:Int) (L:Int→Nat) (n:Nat) (l:List Stp) (x:Stp) (h:x.1≤n):outL s L n (l++[x])=outL s L n l:=by
 unfold outL
 have:[x].filter (fun x=>decide ((n:Int)<x.1))=[]:=by simp;omega
 rw [List.filter_append,this,List.append_nil]
theorem outL_out (s:Int) (L:Int→Nat) (n:Nat) (l:List Stp) (x:Stp) (h:¬ x.1≤n):outL s L n (l++[x])=if s=2 then stT s L x::outL s L n l else outL s L n l++[stT s L x]:=by
 unfold outL
 have:[x].filter (fun x=>decide ((n:Int)<x.1))=[x]:=by simp;omega
 rw [List.filter_append,this]
 by_cases e:s=2
 ·rw [if_pos e,if_pos e,if_pos e];simp
 ·rw [if_neg e,if_neg e,if_neg e];simp
theorem outL_len (s:Int) (L:Int→Nat) (n:Nat) (l:List Stp):(outL s L n l).length≤l.length:=by
 unfold outL
 split
 ·simp;exact List.length_filter_le _ _
 ·simp;exact List.length_filter_le _ _
def headW (s:Int) (e:Ev):List (List UInt8):=if e.bar=true then [[124],tW e.val (sgI e.dot e.three)] else [tW e.val (sgI e.dot e.three)]
def staffN (s:Int) (p:Pce):Nat:=if s=4 then 0 else min p.cs.length 6
def colW (s:Int) (p:Pce) (i:Int) (e:Ev):List (List UInt8) :=
 headW s e++(if e.tie=true then [[126]] else if e.stops.length=0 then [[37]] else
  if s=2 then outL s (fun c=>longestN p.evs i c) (staffN s p) e.stops++staffL s (fun c=>longestN p.evs i c) (staffN s p) e.stops
  else staffL s (fun c=>longestN p.evs i c) (staffN s p) e.stops++outL s (fun c=>longestN p.evs i c) (staffN s p) e.stops)
def spW (l:List (List UInt8)):List UInt8:=l.flatMap sp
def joinW:List (List UInt8)→List UInt8
 | []=>[]
 | x::r=>x++spW r
theorem joinW_lib (l:List (List UInt8)):Lib.join l [32]=joinW l:=by
 cases l with
 | nil=>rfl
 | cons x r =>
  rw [Lib.join_cons]
  show x++Lib.joinTail [32] r=x++r.flatMap sp
  unfold Lib.joinTail
  rw [List.flatMap_def];rfl
def colS (s:Int) (p:Pce) (i:Int) (e:Ev):List UInt8:=joinW (colW s p i e)
/-! The reference goes over the courses. -/
def refHead (s:Int) (e:Ev):List UInt8:=(if e.bar=true then [124,32] else [])++tW e.val (sgI e.dot e.three)
theorem head_join (s:Int) (e:Ev) (r:List (List UInt8)):joinW (headW s e++r)=refHead s e++spW r:=by
 unfold headW refHead
 by_cases h:e.bar=true
 ·rw [if_pos h,if_pos h];simp [joinW,spW,sp]
 ·rw [if_neg h,if_neg h];simp [joinW]
theorem colS_tie {s:Int} {p:Pce} {i:Int} {e:Ev} (h:e.tie=true):colS s p i e=refHead s e++[32,126]:=by
 unfold colS colW
 rw [if_pos h,head_join];rfl
theorem colS_rest {s:Int} {p:Pce} {i:Int} {e:Ev} (h:¬ e.tie=true) (h1:e.stops.length=0):colS s p i e=refHead s e++[32,37]:=by
 unfold colS colW
 rw [if_neg h,if_pos h1,head_join];rfl
def refStaff (s:Int) (L:Int→Nat) (l:List Stp) (m:Nat):List UInt8 :=
 if s=2 then ((List.range m).map fun q:Nat=>sp (stF s L l ((q:Int)+1))).reverse.flatten else ((List.range m).map fun q:Nat=>sp (stF s L l ((q:Int)+1))).flatten
theorem refStaff_succ (s:Int) (L:Int→Nat) (l:List Stp) (m:Nat):refStaff s L l (m+1)=if s=2 then sp (stF s L l ((m:Int)+1))++refStaff s L l m else refStaff s L l m++sp (stF s L l ((m:Int)+1)):=by
 unfold refStaff
 rw [List.range_succ,List.map_append]
 by_cases e:s=2
 ·rw [if_pos e,if_pos e,if_pos e];simp
 ·rw [if_neg e,if_neg e,if_neg e];simp
theorem refStaff_all (s:Int) (L:Int→Nat) (l:List Stp) (n:Nat):refStaff s L l n=spW (staffL s L n l):=by
 unfold refStaff staffL spW
 rw [List.flatMap_def,List.map_map]
 by_cases e:s=2
 ·rw [if_pos e]
  congr 1
  apply List.ext_getElem
  ·simp
  ·intro j h1 h2
   have hj:j<n:=by simpa using h1
   simp only [List.getElem_reverse,List.getElem_map,List.getElem_range,List.length_map,List.length_range,Function.comp_apply,cAt,if_pos e]
   congr 2;omega
 ·rw [if_neg e]
  congr 1
  apply List.map_congr_left
  intro j hj
  simp only [Function.comp_apply,cAt,if_neg e]
def refOut (s:Int) (L:Int→Nat) (n:Nat) (l:List Stp) (c:Int):List UInt8:=spW (outL s L n (l.filter fun x=>decide (x.1≤c)))
theorem filter_up {l:List Stp} {c:Int}:∀ {m:Int},asc m l→(l.filter fun x=>decide (x.1≤c+1))=(l.filter fun x=>decide (x.1≤c))++(stOn l (c+1)).toList:=by
 induction l with
 | nil=>intro m _;rfl
 | cons x r ih =>
  intro m ha
  by_cases h1:x.1≤c
  ·have e:stOn (x::r) (c+1)=stOn r (c+1):=by
    unfold stOn
    rw [List.find?_cons_of_neg (by simp;omega)]
   rw [List.filter_cons_of_pos (by simp;omega),List.filter_cons_of_pos (by simpa using h1),e,ih ha.2];rfl
  ·have hr:∀ y∈r,¬ y.1≤c+1:=fun y hy=>by have:=asc_lt ha.2 y hy;omega
   have e1:(r.filter fun x=>decide (x.1≤c+1))=[]:=by rw [List.filter_eq_nil_iff];intro y hy;simpa using hr y hy
   have e2:(r.filter fun x=>decide (x.1≤c))=[]:=by rw [List.filter_eq_nil_iff];intro y hy;have:=hr y hy;simp;omega
   rw [List.filter_cons_of_neg (l:=r) (p:=fun x=>decide (x.1≤c)) (by simpa using h1),e2]
   by_cases h2:x.1=c+1
   ·rw [List.filter_cons_of_pos (by simp;omega),e1]
    unfold stOn
    rw [List.find?_cons_of_pos (by simpa using h2)];rfl
   ·rw [List.filter_cons_of_neg (by simp;omega),e1]
    have:stOn (x::r) (c+1)=none:=stOn_none fun y hy=>by
     rcases List.mem_cons.1 hy with rfl|hy
     ·exact h2
     ·have:=hr y hy;omega
    rw [this];rfl
theorem stOn_eq {l:List Stp} {c:Int} {x:Stp} (h:stOn l c=some x):x∈l∧x.1=c:=by
 unfold stOn at h
 exact ⟨List.mem_of_find?_eq_some h,by simpa using List.find?_some h⟩
theorem refOut_up (s:Int) (L:Int→Nat) (n:Nat) (l:List Stp) (c m:Int) (ha:asc m l):refOut s L n l (c+1)=match stOn l (c+1) with
  | some x=>if c+1≤n then refOut s L n l c else if s=2 then sp (stT s L x)++refOut s L n l c else refOut s L n l c++sp (stT s L x)
  | none=>refOut s L n l c:=by
 unfold refOut
 rw [filter_up ha]
 cases hx:stOn l (c+1) with
 | none=>simp
 | some x =>
  have hxc:=(stOn_eq hx).2
  simp only [Option.toList_some]
  by_cases h1:c+1≤n
  ·rw [if_pos h1,outL_in _ _ _ _ _ (by omega)]
  ·rw [if_neg h1,outL_out _ _ _ _ _ (by omega)]
   by_cases e:s=2
   ·rw [if_pos e,if_pos e];simp [spW]
   ·rw [if_neg e,if_neg e];simp [spW]
theorem refOut_zero (s:Int) (L:Int→Nat) (n:Nat) (l:List Stp) (ha:asc 0 l):refOut s L n l 0=[]:=by
 unfold refOut
 have:(l.filter fun x=>decide (x.1≤0))=[]:=by rw [List.filter_eq_nil_iff];intro y hy;have:=asc_lt ha y hy;simp;omega
 rw [this]
 unfold outL;split<;>rfl
theorem refOut_all (s:Int) (L:Int→Nat) (n:Nat) (l:List Stp) (c:Int) (h:∀ x∈l,x.1≤c):refOut s L n l c=spW (outL s L n l):=by
 unfold refOut
 rw [List.filter_eq_self.2 fun x hx=>by simpa using h x hx]
theorem colS_chord {s:Int} {p:Pce} {i:Int} {e:Ev} {L:Int→Nat} (hL:L=fun c=>longestN p.evs i c) (h:¬ e.tie=true) (h1:¬ e.stops.length=0) (c:Int) (hc:∀ x∈e.stops,x.1≤c) :
  colS s p i e=refHead s e++(if s=2 then refOut s L (staffN s p) e.stops c else [])++refStaff s L e.stops (staffN s p)++(if s=2 then [] else refOut s L (staffN s p) e.stops c):=by
 subst hL
 unfold colS colW
 rw [if_neg h,if_neg h1,head_join,refOut_all _ _ _ _ _ hc,refStaff_all]
 by_cases e:s=2
 ·rw [if_pos e,if_pos e,if_pos e];simp [spW]
 ·rw [if_neg e,if_neg e,if_neg e];simp [spW]
/-! Lengths; no cell is a dash. -/
theorem cellS_len (s c f r g h L:Int) (hs:1≤s∧s≤4) (hc:1≤c∧c≤14) (hf:0≤f∧f≤18):(cellS s c f r g h L).length≤12:=by
 unfold cellS
 have h1:=(pS_len s c f hs hc hf).1
 have h2:=rR_len s r
 have h3:=rG_len s g
 have h4:=pH_len s h L
 simp only [List.length_append];omega
theorem symDash:((List.range' 1 4).all fun s=>(List.range' 1 14).all fun c=>(List.range 19).all fun f=>!(pOk (s:Nat) (c:Nat) (f:Nat)) || (match pS (s:Nat) (c:Nat) (f:Nat) with|x::_=>x != 45|[]=>false))=true:=by
 decide +kernel
theorem cellS_dash (s c f r g h L:Int) (hs:1≤s∧s≤4) (hc:1≤c∧c≤14) (hf:0≤f∧f≤18) (ho:pOk s c f=true):cellS s c f r g h L≠[45]:=by
 obtain ⟨s,rfl⟩:=Int.eq_ofNat_of_zero_le (show 0≤s by omega)
 obtain ⟨c,rfl⟩:=Int.eq_ofNat_of_zero_le (show 0≤c by omega)
 obtain ⟨f,rfl⟩:=Int.eq_ofNat_of_zero_le hf.1
 have h:=symDash
 rw [List.all_eq_true] at h
 have h1:=h s (List.mem_range'_1.2 (by omega))
 rw [List.all_eq_true] at h1
 have h2:=h1 c (List.mem_range'_1.2 (by omega))
 rw [List.all_eq_true] at h2
 have h3:=h2 f (List.mem_range.2 (by omega))
 rw [Bool.or_eq_true] at h3
 rcases h3 with h3|h3
 ·rw [Bool.not_eq_true'] at h3;rw [h3] at ho;cases ho
 ·unfold cellS
  cases hp:pS (s:Nat) (c:Nat) (f:Nat) with
  | nil=>rw [hp] at h3;cases h3
  | cons x r =>
   rw [hp] at h3
   have:x≠45:=by simpa using h3
   simp only [List.cons_append]
   intro e
   injection e with e1 _
   exact this e1
theorem stK_of {s:Int} {p:Pce} {i:Int} {e:Ev} (h:lackE s p i e=[]):∀ x∈e.stops,stK s (fun c=>longestN p.evs i c) x=true:=fun x hx=>by
 unfold lackE at h
 have h1:=(List.append_eq_nil_iff.1 h).2
 rw [List.flatMap_eq_nil_iff] at h1
 have h2:=h1 x hx
 unfold lackStop at h2
 by_cases e1:pOk s x.1 x.2.1=false
 ·rw [if_pos e1] at h2;cases h2
 ·rw [if_neg e1] at h2
  have lk:∀ b i c w,lkIf b i c w=[]→b=true:=fun b i c w h=>by cases b<;>first|rfl|cases h
  obtain ⟨a1,a2⟩:=List.append_eq_nil_iff.1 h2
  obtain ⟨a2,a3⟩:=List.append_eq_nil_iff.1 a2
  unfold stK cellOk
  rw [lk _ _ _ _ a1,lk _ _ _ _ a2,lk _ _ _ _ a3]
  simpa using e1
theorem spW_len {n:Nat}:∀ {l:List (List UInt8)},(∀ t∈l,t.length≤n)→(spW l).length≤(n+1)*l.length
 | [],_=>by simp [spW]
 | x::r,h=>by
  have h1:=spW_len (l:=r) fun t ht=>h t (by simp [ht])
  have h2:=h x (by simp)
  unfold spW at h1 ⊢
  rw [List.flatMap_cons,List.length_append,List.length_cons,Nat.mul_succ]
  have:(sp x).length=x.length+1:=by simp [sp]
  omega
end Go.Proofs.YtgelfflighgajaaGreatDoor
