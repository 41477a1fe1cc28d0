/- Whether a piece is too big: the law's own look. -/
import Derived.Test.YtaeelcfjkhfpkaaGreatFXSq
set_option maxHeartbeats 1600000
set_option maxRecDepth 100000
set_option linter.unusedVariables false
set_option linter.unusedSimpArgs false
namespace Go.Proofs.YtaeelcfjkhfpkaaGreat
section
open Go.RowKit
section
variable {B:World→View→Prop} {gl:Nat} {P:Program} {C:Cx} {σ:St} {o:Oper} {d:Tmp}
theorem fpM_nil {G:Gh} {x:Nat}:¬ fpM G [] x:=by
 unfold fpM
 rintro⟨k,ob,h,_⟩
 cases h
theorem WO.lendO (hB:Holds B gl C) {f:FuncId} {y:Operand} {fv:AV} {xs:Array Operand} {ts:Array TypeId} {args0 caps args args':List AV} {T n q:Nat} {rows:List (List AV)} (ho:o.op=.call { callee:=.value y,args:=xs,argTypes:=ts }) (hc:∀ vs w,(callFunc f vs).run P w=.ok (.enter f vs) w)
  (hy:σ.ev y=some fv) (hf:fnOf fv=some (f,caps)) (hx:σ.evs xs.toList=some args0) (hcat:args0++caps=args) (hl:Lents C σ args args') (hst:∀ w F F',View.le F F'→B w F→B w F') (h:Cto B gl P f args' [] 0 (.sl 0) [(0,.row T n rows)] 1)
  (hr:∀ r∈rows,∀ av∈r,∃ z,av=.sc z) (hds:o.dst=some d) (hd:Nat.blt d C.N=true) (hq:σ.nk=q):WO P C o σ ((σ.new (.row T n rows)).put d (.sl q)):=by
 intro G a w ok N Q' hN
 obtain ⟨cs,ey,h1,h2⟩:=fnOf_of hf (ok.evr hy).2
 obtain ⟨e1,e2⟩:=ok.evl2 hx h1 h2 hcat
 obtain ⟨q1,q2⟩:=hl.at_
 have hF:G.F.le fun q=>w.cell? q:=fun p u x=>ok.fw p u x
 refine call_wp ho hc ey (h w ⟨fun q=>w.cell? q,fun _=>0,fun _=>0,fun _=>undef,fun _ _=>False⟩ _ (hst w _ _ hF (hB.1 w G.F ok.bel ok.f0)) (fun x hx=>(fpM_nil hx).elim)
  ⟨fun _ _ x=>x,fun k o hk=>(by cases hk),fun k o x hk=>(by cases hk),fun k o k2 o2 x hk=>(by cases hk),fun k o x p u hk=>(by cases hk)⟩ (by rw [e1,q1]) fun i av u p qq=>?_) fun e w1 ⟨v,G',he,hk,h3,h4,hO,hmy,hpin,hle,hbd,hR⟩=>?_
 ·obtain ⟨b,hb,hL⟩:=q2 i av p
  exact .pu _ _ (hL G a w ok u (e2 i b u hb qq))
 ·obtain ⟨_,_,g1,g2,g3⟩:=hO.ob 0 _ rfl
  obtain ⟨r1,vs,Φ,r2,r3,r4,r5,r6,r7,r8,r9⟩:=g3
  obtain ⟨ev,eo⟩:=hR.sl_of
  have hnew:∀ x,G'.fp 0 x→w.heap.size≤x:=fun x hx=>(hmy 0 _ x rfl hx).elim id fun z=>(fpM_nil z).elim
  have ok':=ok.newObj (w':=w1) (S:=fun _=>False) (b:=G'.b 0) (n:=n) (h:=G'.h 0) (φ:=G'.fp 0) (ob:=.row T n rows)
   ⟨hk.os,hk.tape,hk.output,hk.size,fun k hk' _=>hk.block k hk' fpM_nil⟩ (fun _ h=>h.elim) (fun _ _ _ _ _ h=>h) (fun _ _ _ h=>h)
   ⟨with_n,(fun g hg=>by rw [with_h] at hg;rw [with_b];exact g2 g hg),by
    rw [with_h,with_f]
    refine ⟨r1,vs,Φ,r2,r3,r4,r5,r6,r7,r8,fun i r r' j av u a b c d=>?_⟩
    obtain ⟨z,rfl⟩:=hr r (List.mem_of_getElem? a) av (List.mem_of_getElem? c)
    have:=r9 i r r' j _ u a b c d
    rw [show u=z from RP.sc_eq this]
    exact .sc _⟩ trivial (fun x hx=>⟨.inl (Nat.le_trans ok.bel.size (hnew x hx)),hO.my 0 _ x rfl hx,fun k o h1 h2=>by
     have:=(ok.my k o x h1 h2).2
     have:=hnew x hx
     omega,fun p u h1 h2=>by
     have:=cell_block (ok.fw p u h1)
     have:=hnew x hx
     omega⟩)
  refine ⟨v,he,?_⟩
  rw [hds]
  subst hq
  rw [ev] at eo ⊢
  exact hN _ _ _ (ok'.set (d:=some d) (av:=.sl σ.nk) (v:=G'.h 0) (with_sl eo) (.sl _ (Nat.lt_succ_self _)) fun x hx=>by cases hx;exact of_blt hd)
end
end
section
open Go.RowKit
def AV.frb0 (k:Nat)(cells0:List AV):AV→AV
 | .pt q 0 j=>bif Nat.beq q k then .pr (cells0.drop j)else .pt q 0 j
 | av=>av
def AV.frb1 (k:Nat)(cells0:List AV):AV→AV
 | .fn f l=>.fn f (l.map (AV.frb0 k cells0))
 | av=>av.frb0 k cells0
def AV.frb2 (k:Nat)(cells0:List AV):AV→AV
 | .ag l=>.ag (l.map (AV.frb1 k cells0))
 | av=>av.frb1 k cells0
def AV.frb (k:Nat)(cells0:List AV):AV→AV
 | .tu l=>.tu (l.map (AV.frb2 k cells0))
 | av=>av.frb2 k cells0
def AO.frb (k:Nat)(cells0:List AV):AO→AO
 | .box T cells=>.box T (cells.map (AV.frb1 k cells0))
 | .rof T m rs hi hj x=>.rof T m rs hi hj (x.frb1 k cells0)
 | .rwo T m rs hi hj x=>.rwo T m rs hi hj (x.frb1 k cells0)
 | ob=>ob
def St.freezeB (σ:St) (k:Nat) (cells0:List AV):St:=⟨mapS (AV.frb k cells0) σ.t,mapS (AO.frb k cells0) (rem k σ.M),σ.nk⟩
def PtPr (G:Gh) (k:Nat) (cells0:List AV):Prop:=∀ (j:Nat) (p:Addr),p.block=G.b k→p.off=j→p.spot=none→R G (.pr (cells0.drop j)) (.pointer (some p))
section
variable {P:Program} {C:Cx} {σ σ':St} {G G':Gh} {a:Act} {w w':World} {o:Oper} {d:Tmp}
section
variable {k nk:Nat} {cells0:List AV} {av:AV} {v:Value}
theorem frb0_R (h:PtPr G k cells0)(r:R G av v):R G (av.frb0 k cells0) v:=by
 cases av with
 | pt q i j =>
  cases i with
  | zero =>
   simp only [AV.frb0]
   cases e:Nat.beq q k with
   | true =>
    obtain rfl:=Nat.eq_of_beq_eq_true e
    obtain⟨p,rfl,h1,h2,h3⟩:=r.pt_of
    exact h j p h1 (by rw [h2];simp) h3
   | false=>exact r
  | succ i=>exact r
 | _=>exact r
theorem frb0_bd (b:Bd nk av):Bd nk (av.frb0 k cells0):=by
 cases av with
 | pt q i j =>
  cases i with
  | zero =>
   simp only [AV.frb0]
   cases e:Nat.beq q k with
   | true=>exact .pr _
   | false=>exact b
  | succ i=>exact b
 | _=>exact b
theorem frb1_R (h:PtPr G k cells0)(r:R G av v):R G (av.frb1 k cells0) v:=by
 cases av with
 | fn f l =>
  obtain⟨cs,rfl,h1,h2⟩:=r.fn_of
  obtain⟨q1,q2⟩:=list_R h1 h2 fun _ _=>frb0_R h
  exact .fn f _ cs q1 q2
 | pt q i j=>exact frb0_R (av:=.pt q i j) h r
 | _=>exact r
theorem frb1_bd (b:Bd nk av):Bd nk (av.frb1 k cells0):=by
 cases av with
 | fn f l=>cases b with|fn _ _ hb=>exact .fn f _ (list_bd hb fun _=>frb0_bd)
 | pt q i j=>exact frb0_bd (av:=.pt q i j) b
 | _=>exact b
theorem frb2_R (h:PtPr G k cells0)(r:R G av v):R G (av.frb2 k cells0) v:=by
 cases av with
 | ag l =>
  obtain⟨cs,rfl,h1,h2⟩:=r.ag_of
  obtain⟨q1,q2⟩:=list_R h1 h2 fun _ _=>frb1_R h
  exact .ag _ cs q1 q2
 | fn f l=>exact frb1_R (av:=.fn f l) h r
 | pt q i j=>exact frb0_R (av:=.pt q i j) h r
 | _=>exact r
theorem frb2_bd (b:Bd nk av):Bd nk (av.frb2 k cells0):=by
 cases av with
 | ag l=>cases b with|ag _ hb=>exact .ag _ (list_bd hb fun _=>frb1_bd)
 | fn f l=>exact frb1_bd (av:=.fn f l) b
 | pt q i j=>exact frb0_bd (av:=.pt q i j) b
 | _=>exact b
theorem frb_R (h:PtPr G k cells0)(r:R G av v):R G (av.frb k cells0) v:=by
 cases av with
 | tu l =>
  obtain⟨cs,rfl,h1,h2⟩:=r.tu_of
  obtain⟨q1,q2⟩:=list_R h1 h2 fun _ _=>frb2_R h
  exact .tu _ cs q1 q2
 | ag l=>exact frb2_R (av:=.ag l) h r
 | fn f l=>exact frb1_R (av:=.fn f l) h r
 | pt q i j=>exact frb0_R (av:=.pt q i j) h r
 | _=>exact r
theorem frb_bd (b:Bd nk av):Bd nk (av.frb k cells0):=by
 cases av with
 | tu l=>cases b with|tu _ hb=>exact .tu _ (list_bd hb fun _=>frb2_bd)
 | ag l=>exact frb2_bd (av:=.ag l) b
 | fn f l=>exact frb1_bd (av:=.fn f l) b
 | pt q i j=>exact frb0_bd (av:=.pt q i j) b
 | _=>exact b
theorem frb1_C {φ:Nat→Prop} (h:PtPr G k cells0)(r:CR G w φ av v):CR G w φ (av.frb1 k cells0) v:=by
 rcases r with r|o
 ·exact .inl (frb1_R h r)
 ·by_cases ho:av.own=true
  ·cases av with
   | ow T n rows=>exact .inr o
   | _=>cases ho
  ·exact .inl (frb1_R h (.pu _ _ (OW.p o (by simpa using ho))))
end
theorem Tr.freezeB (k:Nat) {T:TypeId} {cells0:List AV} (hk:look k σ.M=some (.box T cells0)) (hp0:(cells0.all fun av=>(av.pu2 && !av.own) && av.oneB)=true):Tr C σ (σ.freezeB k cells0):=fun G a w ok=>by
 obtain ⟨hkn,_,hob⟩:=ok.ob k _ hk
 classical
 let F':View:=fun p=>if G.fp k p.block then w.cell? p else G.F p
 have hF:G.F.le F':=fun p u h=>by
  show (if _ then _ else _)=_
  rw [if_neg (fun e=>ok.dF k _ p.block p u hk e h rfl)];exact h
 have hFn:∀ p u,F' p=some u→G.F p=some u∨(G.fp k p.block∧w.cell? p=some u):=fun p u h=>by
  have h:(if G.fp k p.block then w.cell? p else G.F p)=some u:=h
  by_cases e:G.fp k p.block
  ·rw [if_pos e] at h;exact .inr ⟨e,h⟩
  ·rw [if_neg e] at h;exact .inl h
 have hle:G.le { G with F:=F' } σ.nk:=⟨hF,fun _ _=>rfl,fun _ _=>rfl,fun _ _=>rfl⟩
 have hls':PtPr { G with F:=F' } k cells0:=by
  intro j p h1 h2 h3
  obtain ⟨g1,cs,Φ,g2,g3,_,_,g6⟩:=hob
  have hpe:∀ i,p.add i=⟨G.b k,j+i,none⟩:=fun i=>by
   obtain ⟨pb,po,ps⟩:=p
   dsimp only at h1 h2 h3
   subst h1 h2 h3
   simp [Addr.add]
  have hcell:∀ i av,(cells0.drop j)[i]?=some av→∃ u,cs[j+i]?=some u∧w.cell? (p.add i)=some u∧u.oneCell'=true∧RP G.F av u:=fun i av hi=>by
   rw [List.getElem?_drop] at hi
   have hlt:j+i<cells0.length:=(List.getElem?_eq_some_iff.1 hi).1
   have hcs:cs[j+i]?=some (cs[j+i]'(by omega)):=Array.getElem?_eq_getElem _
   have hpu:=List.all_eq_true.1 hp0 av (List.mem_of_getElem? hi)
   rw [Bool.and_eq_true,Bool.and_eq_true] at hpu
   have hr:=(g6 (j+i) av _ hi hcs).r (by simpa using hpu.1.2)
   exact ⟨_,hcs,by rw [hpe,g2.cell,hcs],oneB_of hr hpu.2,(pu2_bd hpu.1.1 0).rp hr⟩
  classical
  refine .pu _ _ (.pr _ p (fun i=>cs.getD (j+i) undef) (fun i av hi=>?_) fun i av hi=>?_)
  ·obtain ⟨u,q1,q2,q3,q4⟩:=hcell i av hi
   rw [show cs.getD (j+i) undef=u by rw [Array.getD_eq_getD_getElem?,q1];rfl]
   refine ⟨?_,q3⟩
   show (if G.fp k (p.add i).block then w.cell? (p.add i) else G.F (p.add i))=some u
   rw [if_pos (by rw [hpe];exact g1)]
   exact q2
  ·obtain ⟨u,q1,q2,q3,q4⟩:=hcell i av hi
   rw [show cs.getD (j+i) undef=u by rw [Array.getD_eq_getD_getElem?,q1];rfl]
   exact q4.mono hF
 have hl:∀ i ob,look i (σ.freezeB k cells0).M=some ob→∃ ob0,i≠k∧look i σ.M=some ob0∧ob=ob0.frb k cells0:=fun i ob h=>by
  rw [show look i (σ.freezeB k cells0).M=_ from look_mapS _ i _,look_rem] at h
  by_cases e:i=k
  ·rw [if_pos e] at h;cases h
  ·rw [if_neg e] at h
   cases hq:look i σ.M with
   | none=>simp [hq] at h
   | some ob0=>simp [hq] at h;exact ⟨ob0,e,rfl,h.symm⟩
 refine ⟨{ G with F:=F' },ok.sz,ok.df,fun i av h=>?_,ok.bel,fun p u h=>?_,fun p u h=>hF p u (ok.f0 p u h),fun p u h=>?_,fun i ob h=>?_,fun i o x h1 h2=>?_,?_,?_⟩
 ·rw [show look i (σ.freezeB k cells0).t=_ from look_mapS _ i _] at h
  cases hq:look i σ.t with
  | none=>simp [hq] at h
  | some av0 =>
   simp [hq] at h
   obtain ⟨h1,h2,h3⟩:=ok.tm i av0 hq
   rw [← h]
   exact ⟨h1,frb_bd h2,frb_R hls' (h3.mono hle h2)⟩
 ·rcases hFn p u h with h|⟨_,h⟩
  ·exact ok.fw p u h
  ·exact h
 ·rcases hFn p u h with h|⟨h,_⟩
  ·exact ok.f1 p u h
  ·exact .inr (ok.my k _ _ hk h).1
 ·obtain ⟨ob0,e,h0,rfl⟩:=hl i ob h
  obtain ⟨g1,g2,g3⟩:=ok.ob i ob0 h0
  have g4:=g3.keep (w':=w) (G':={ G with F:=F' }) hle g1 g2 rfl (fun _ _=>rfl)
  refine ⟨g1,?_,?_⟩
  ·cases ob0 with
   | box T cells=>exact list_bd g2 fun _=>frb1_bd
   | rof T m rs hi hj y=>exact frb1_bd g2
   | rwo T m rs hi hj y=>exact frb1_bd g2
   | _=>exact g2
  ·cases ob0 with
   | box T cells =>
    obtain ⟨b1,cs,Φ,b2,b3,b4,b5,b6⟩:=g4
    refine ⟨b1,cs,Φ,b2,by simpa using b3,b4,b5,fun j av u x y=>?_⟩
    rw [List.getElem?_map] at x
    cases hq:cells[j]? with
    | none=>simp [hq] at x
    | some b=>simp [hq] at x;rw [← x];exact frb1_C hls' (b6 j b u hq y)
   | rof T m rs hi hj y =>
    obtain ⟨c1,c2,c3⟩:=g4
    refine ⟨c1,c2,c3.keep (fun _ _=>rfl) fun i r j av ψ u _ _ _ x=>?_⟩
    unfold XH at x ⊢
    by_cases e:i=hi∧j=hj
    ·rw [if_pos e] at x ⊢
     exact frb1_R hls' x
    ·rw [if_neg e] at x ⊢
     exact x
   | rwo T m rs hi hj y =>
    obtain ⟨c1,c2,c3⟩:=g4
    refine ⟨c1,c2,c3.keep (fun _ _=>rfl) fun i r j av ψ u _ _ _ x=>?_⟩
    unfold XQ at x ⊢
    by_cases e:i=hi∧j=hj
    ·rw [if_pos e] at x ⊢
     exact frb1_R hls' x
    ·rw [if_neg e] at x ⊢
     exact x
   | _=>exact g4
 ·obtain ⟨ob0,e,h0,rfl⟩:=hl i o h1
  exact ok.my i ob0 x h0 h2
 ·intro i o i' o' x h1 h2 h3 h4
  obtain ⟨ob0,e,h0,rfl⟩:=hl i o h1
  obtain ⟨ob0',e',h0',rfl⟩:=hl i' o' h2
  exact ok.dj i ob0 i' ob0' x h0 h0' h3 h4
 ·intro i o x p u h1 h2 h3
  obtain ⟨ob0,e,h0,rfl⟩:=hl i o h1
  rcases hFn p u h3 with h|⟨h,_⟩
  ·exact ok.dF i ob0 x p u h0 h2 h
  ·intro e2
   exact e (ok.dj i ob0 k _ x h0 hk h2 (by rw [← e2];exact h))
end
end
section
open Go.RowKit
theorem big_any (M:PM) (p:Pce) (w:World) (hP:PcAt w w.heap.size M p):Calls Tryz.prog 25 #[pcValue M p] w (Ret (.bool (bigB p)) w):=by
 obtain ⟨A1,A2,A3,c1,c2,c3⟩:=M
 obtain ⟨cs,st,evs⟩:=p
 unfold pcValue
 simp only at *
 have HP:=Lib.hid hP.2.1
 obtain ⟨n1,hn1⟩:∃ n,cs.length=n:=⟨_,rfl⟩
 obtain ⟨n2,hn2⟩:∃ n,st.length=n:=⟨_,rfl⟩
 obtain ⟨n3,hn3⟩:∃ n,evs.length=n:=⟨_,rfl⟩
 have HN3:=Lib.hid hn3
 have hB:bigB ⟨cs,st,evs⟩=(decide (64 < n1)|| (decide (64 < n2)|| (decide (420 < n3)|| evs.any fun e=>decide (20 < e.stops.length)))):=by unfold bigB;rw [hn1,hn2,hn3]
 rw [hB,hn1,hn2,hn3]
 clear hB hn1 hn2 hn3 hP
 by_cases b1:64 < n1
 ·have e:(decide (64 < n1)|| (decide (64 < n2)|| (decide (420 < n3)|| evs.any fun e=>decide (20 < e.stops.length))))=true:=by simp [b1]
  rw [e]
  clear e
  go_enter Tryz.func25,Tryz.ntmps25
  go_wp2
  go_ret
  exact Ret.mk' rfl zqb
 ·by_cases b2:64 < n2
  ·have e:(decide (64 < n1)|| (decide (64 < n2)|| (decide (420 < n3)|| evs.any fun e=>decide (20 < e.stops.length))))=true:=by simp [b2]
   rw [e]
   clear e
   go_enter Tryz.func25,Tryz.ntmps25
   go_wp2
   go_ret
   exact Ret.mk' rfl zqb
  ·by_cases b3:420 < n3
   ·have e:(decide (64 < n1)|| (decide (64 < n2)|| (decide (420 < n3)|| evs.any fun e=>decide (20 < e.stops.length))))=true:=by simp [b3]
    rw [e]
    clear e
    go_enter Tryz.func25,Tryz.ntmps25
    go_wp2
    go_ret
    exact Ret.mk' rfl zqb
   ·have e:(decide (64 < n1)|| (decide (64 < n2)|| (decide (420 < n3)|| evs.any fun e=>decide (20 < e.stops.length))))=evs.any fun e=>decide (20 < e.stops.length):=by simp [b1,b2,b3]
    rw [e]
    clear e
    obtain ⟨V,hV⟩:∃ V,(evs.any fun e=>decide (20 < e.stops.length))=V:=⟨_,rfl⟩
    rw [hV]
    have HV:=Lib.hid hV
    clear hV
    go_enter Tryz.func25,Tryz.ntmps25
    go_wp2
    go_loop [3] (fun i=>∃ k:Nat,k≤n3∧i=.int .i64 k∧V=(evs.drop k).any fun e=>decide (20 < e.stops.length)) (fun i=>n3 - (intOf i).toNat)
    case atStart=>exact ⟨0,Nat.zero_le _,rfl,HV.out.symm⟩
    case round =>
     obtain ⟨k,hk,rfl,hs⟩:=hrel
     have HS:=Lib.hid hs
     clear hs
     by_cases hlt:k < n3
     ·have hk2:k < evs.length:=by have:=HN3.out;omega
      obtain ⟨ad,S,c,hA,hb,_,_,_,_,_,hc,_⟩:=HP.out.ev hk2
      subst hA
      have hs2:=HS.out.trans (any_at hk2)
      generalize evs[k]=e at hc hs2
      have hc2:∀ o:Obj,(w.alloc o).cell? ⟨(ad.add (k*6)).block,(ad.add (k*6)).off+5,none⟩=some (.slice S e.stops.length c):=fun o=>by
       rw [World.cell?_alloc_lt _ _ _ (by rw [block_of_add];omega),hc]
      clear hc
      generalize e.stops.length=n at *
      by_cases hb1:20 < n
      ·have HE:=Lib.hid (hs2.trans (show _=true by simp [hb1]))
       clear hs2
       go_wp2
       go_ret
       exact Ret.mk' (by rw [HE.out];rfl) zqb
      ·have HS3:=Lib.hid (hs2.trans (show _=(evs.drop (k+1)).any fun e=>decide (20 < e.stops.length) by simp [hb1]))
       clear hs2
       go_wp2
       go_round
       case rel=>exact ⟨k+1,by omega,by go_num,HS3.out⟩
       case measure=>simp [intOf];omega
     ·have HE:=Lib.hid (HS.out.trans (show ((evs.drop k).any fun e=>decide (20 < e.stops.length))=false from by rw [List.drop_eq_nil_of_le (by have:=HN3.out;omega)];rfl))
      go_wp2
      go_ret
      exact Ret.mk' (by rw [HE.out];rfl) zqb
end
end Go.Proofs.YtaeelcfjkhfpkaaGreat
