/- How big a piece is; the look at the examples. -/
import Derived.Test.YtaeelcfjkhfpkaaGreatFDNq
import Derived.Test.YtaeelcfjkhfpkaaGreatHs3Nq
import Derived.Test.YtaeelcfjkhfpkaaGreatMk1Nq
import Derived.Test.YtaeelcfjkhfpkaaGreatMk2Nq
import Derived.Test.YtaeelcfjkhfpkaaGreatMk4Nq
import Derived.Test.YtaeelcfjkhfpkaaGreatBigNq
set_option maxHeartbeats 8000000
set_option maxRecDepth 100000
set_option linter.unusedVariables false
set_option linter.unusedSimpArgs false
namespace Go.Proofs.YtaeelcfjkhfpkaaGreat
section
open Go.RowKit
theorem pceE_ins {p:Pce} (h:insE p.cs p.st≠0):pceE p=insE p.cs p.st:=if_pos h
theorem pceE_many {p:Pce} (h:¬ insE p.cs p.st≠0)(h1:400<p.evs.length):pceE p=2:=by unfold pceE;rw [if_neg h,if_pos h1]
theorem pceE_evs {p:Pce} (h:¬ insE p.cs p.st≠0)(h1:¬ 400<p.evs.length):pceE p=evsE p 0 p.evs:=by unfold pceE;rw [if_neg h,if_neg h1]
end
section
open Go.RowKit
def lkIf(ok:Bool)(i c what:Int):List Lck:=if ok then []else [(i,c,what)]
def hasS(s n:Int):Bool:=if s=3 then n != 8 else if s=4 then n == 8 else true
def lackStop (s i:Int)(L:Int→Nat)(x:Stp):List Lck :=
 if pOk s x.1 x.2.1=false then [(i,x.1,1)] else lkIf (okR s x.2.2.1) i x.1 2++(lkIf (okG s x.2.2.2.1) i x.1 3++lkIf (okH s x.2.2.2.2 (L x.1)) i x.1 4)
def lackHead (s i:Int)(e:Ev):List Lck :=
 (if e.val=0 then lkIf (hasS s 6) i 0 6 else [])++((if e.three=true then lkIf (hasS s 5) i 0 5 else [])++(if e.tie=true then lkIf (hasS s 7) i 0 7 else if e.stops.length=0 then lkIf (hasS s 8) i 0 8 else []))
def lackE (s:Int)(p:Pce)(i:Int)(e:Ev):List Lck:=lackHead s i e++e.stops.flatMap (lackStop s i fun c=>longestN p.evs i c)
theorem lkIf_len(ok:Bool)(i c what:Int):(lkIf ok i c what).length≤1:=by unfold lkIf;split<;>simp
theorem lackStop_len (s i:Int)(L:Int→Nat)(x:Stp):(lackStop s i L x).length≤3:=by
 unfold lackStop
 split
 ·simp
 ·have a:=lkIf_len (okR s x.2.2.1) i x.1 2
  have b:=lkIf_len (okG s x.2.2.2.1) i x.1 3
  have c:=lkIf_len (okH s x.2.2.2.2 (L x.1)) i x.1 4
  simp only [List.length_append];omega
theorem flat_len (s i:Int)(L:Int→Nat):∀ l:List Stp,(l.flatMap (lackStop s i L)).length≤3*l.length:=by
 intro l
 induction l with
 | nil=>simp
 | cons x r ih=>have:=lackStop_len s i L x;simp only [List.flatMap_cons,List.length_append,List.length_cons];omega
theorem flat_snoc (s i:Int)(L:Int→Nat)(l:List Stp)(k:Nat)(h:k<l.length):(l.take (k+1)).flatMap (lackStop s i L)=(l.take k).flatMap (lackStop s i L)++lackStop s i L l[k]:=by
 rw [List.take_succ_eq_append_getElem h,List.flatMap_append];simp
structure LkSt (w:World) (P E:Array Value) (i:Int) (l:List Lck) (wx:World):Prop where
 bel:Below w.heap.size w wx
 bp:Blk wx w.heap.size 29 P
 bi:Blk wx (w.heap.size+1) 3 #[.int .i64 i]
 be:Blk wx (w.heap.size+3) 45 E
 say:SayAt wx (w.heap.size+3) (w.heap.size+2) l
def StopsIn(e:Ev):Prop :=
 ∀ k(h:k<e.stops.length),(1≤e.stops[k].1∧e.stops[k].1≤14)∧(0≤e.stops[k].2.1∧e.stops[k].2.1≤18)∧(0≤e.stops[k].2.2.1∧e.stops[k].2.2.1≤3)∧(0≤e.stops[k].2.2.2.1∧e.stops[k].2.2.2.1≤4)∧(0≤e.stops[k].2.2.2.2∧e.stops[k].2.2.2.2≤15)
def lk1 (s i v:Int):List Lck:=if v=0 then lkIf (hasS s 6) i 0 6 else []
def lk2 (s i:Int)(t:Bool):List Lck:=if t=true then lkIf (hasS s 5) i 0 5 else []
def lk3 (s i:Int)(t:Bool)(n:Nat):List Lck:=if t=true then lkIf (hasS s 7) i 0 7 else if n=0 then lkIf (hasS s 8) i 0 8 else []
theorem lk1_len(s i v:Int):(lk1 s i v).length≤1:=by unfold lk1;split;exact lkIf_len _ _ _ _;simp
theorem lk2_len(s i:Int)(t:Bool):(lk2 s i t).length≤1:=by unfold lk2;split;exact lkIf_len _ _ _ _;simp
theorem lk3_len(s i:Int)(t:Bool)(n:Nat):(lk3 s i t n).length≤1:=by
 unfold lk3;split
 ·exact lkIf_len _ _ _ _
 ·split;exact lkIf_len _ _ _ _;simp
theorem lackE_eq (s:Int)(p:Pce)(i:Int)(e:Ev):lackE s p i e=(lk1 s i e.val++(lk2 s i e.three++lk3 s i e.tie e.stops.length))++e.stops.flatMap (lackStop s i fun c=>longestN p.evs i c):=rfl
end
section
open Go.RowKit
theorem crsE_fr {st:List Int}:∀ {cs:List (Int×Int×Bool)},crsE st cs=0→∀ k (h:k<cs.length),0≤cs[k].2.1∧cs[k].2.1≤st.length:=by
 intro cs
 induction cs with
 | nil=>intro _ k h;simp at h
 | cons x r ih =>
  intro h k hk
  unfold crsE at h
  by_cases h1:x.2.1<0∨(st.length:Int)<x.2.1
  ·rw [if_pos h1]at h;cases h
  ·rw [if_neg h1]at h
   by_cases h2:(x.1<0∨127<x.1)∨127<topOf st x
   ·rw [if_pos h2]at h;cases h
   ·rw [if_neg h2]at h
    cases k with
    | zero=>simp;omega
    | succ k=>simpa using ih h k (by simpa using hk)
theorem stopE_bd {p:Pce} {i last:Int} {s:Stp} (hI:insE p.cs p.st=0)(h:stopE p i s last=0) :
  (1≤s.1∧s.1≤14)∧(0≤s.2.1∧s.2.1≤18)∧(0≤s.2.2.1∧s.2.2.1≤3)∧(0≤s.2.2.2.1∧s.2.2.2.1≤4)∧(0≤s.2.2.2.2∧s.2.2.2.2≤15):=by
 obtain⟨l1,l2,l3,_,l5⟩:=insE_len hI
 unfold stopE at h
 by_cases h1:s.1<1∨(p.cs.length:Int)<s.1
 ·rw [if_pos h1]at h;cases h
 ·rw [if_neg h1]at h
  by_cases h2:s.2.1<0∨fretsOf p.cs s.1<s.2.1
  ·rw [if_pos h2]at h;cases h
  ·rw [if_neg h2]at h
   by_cases h3:s.1≤last
   ·rw [if_pos h3]at h;cases h
   ·rw [if_neg h3]at h
    by_cases h4:(s.2.2.1<0∨3<s.2.2.1)∨(s.2.2.2.1<0∨4<s.2.2.2.1)
    ·rw [if_pos h4]at h;cases h
    ·rw [if_neg h4]at h
     by_cases h5:(s.2.2.2.2<0∨(longestN p.evs i s.1:Int)<s.2.2.2.2)∨(0<s.2.2.2.2∧s.2.1=0)
     ·rw [if_pos h5]at h;cases h
     ·have hL:=longestN_le p.evs i s.1
      have hk:s.1.toNat-1<p.cs.length:=by omega
      have hf:fretsOf p.cs s.1=p.cs[s.1.toNat-1].2.1:=by
       have:=fretsOf_at hk
       rw [← this];congr 1;omega
      have:=crsE_fr l5 _ hk
      refine⟨⟨by omega,by omega⟩,⟨by omega,by omega⟩,⟨by omega,by omega⟩,⟨by omega,by omega⟩,by omega,by omega⟩
theorem stopsE_bd {p:Pce} {i:Int} (hI:insE p.cs p.st=0):∀ {l:List Stp} {last:Int},stopsE p i last l=0→∀ k (h:k<l.length),∃ la,stopE p i l[k] la=0:=by
 intro l
 induction l with
 | nil=>intro _ _ k h;simp at h
 | cons x r ih =>
  intro last h k hk
  unfold stopsE at h
  by_cases h1:stopE p i x last≠0
  ·rw [if_pos h1] at h;exact absurd h h1
  ·rw [if_neg h1] at h
   cases k with
   | zero=>exact⟨last,by simpa using h1⟩
   | succ k=>simpa using ih h k (by simpa using hk)
theorem evsE_bd {p:Pce}:∀ {l:List Ev} {n:Nat},evsE p n l=0→∀ k (h:k<l.length),evE p ((n+k:Nat):Int) l[k]=0:=by
 intro l
 induction l with
 | nil=>intro _ _ k h;simp at h
 | cons x r ih =>
  intro n h k hk
  unfold evsE at h
  by_cases h1:evE p n x≠0
  ·rw [if_pos h1] at h;exact absurd h h1
  ·rw [if_neg h1] at h
   cases k with
   | zero=>simpa using h1
   | succ k =>
    have:=ih h k (by simpa using hk)
    rw [show n+1+k=n+(k+1) by omega] at this
    simpa using this
theorem pceE_zero {p:Pce} (h:pceE p=0):insE p.cs p.st=0∧p.evs.length≤400∧∀ k(hk:k<p.evs.length),evE p k p.evs[k]=0:=by
 unfold pceE at h
 by_cases h1:insE p.cs p.st≠0
 ·rw [if_pos h1]at h;exact absurd h h1
 ·rw [if_neg h1]at h
  by_cases h2:400<p.evs.length
  ·rw [if_pos h2]at h;cases h
  ·rw [if_neg h2]at h
   refine⟨by simpa using h1,by omega,fun k hk=>?_⟩
   have:=evsE_bd h k hk
   simpa using this
theorem evE_zero {p:Pce} {i:Int} {e:Ev} (h:evE p i e=0):sgOk e.val e.dot e.three=true∧¬ (i=0∧e.val=0)∧¬ (e.tie=true∧(0<e.stops.length∨i=0))∧stopsE p i 0 e.stops=0:=by
 unfold evE at h
 by_cases h1:sgOk e.val e.dot e.three=false∨(i=0∧e.val=0)
 ·rw [if_pos h1] at h;cases h
 ·rw [if_neg h1] at h
  by_cases h2:e.tie=true∧(0<e.stops.length∨i=0)
  ·rw [if_pos h2] at h;cases h
  ·rw [if_neg h2] at h
   refine⟨?_,fun x=>h1 (.inr x),h2,h⟩
   cases hs:sgOk e.val e.dot e.three with
   | true=>rfl
   | false=>exact absurd (.inl hs) h1
theorem stopsIn_of {p:Pce} (h:pceE p=0)(k:Nat)(hk:k<p.evs.length):StopsIn p.evs[k]:=by
 obtain⟨h1,h2,h3⟩:=pceE_zero h
 intro j hj
 obtain⟨la,hla⟩:=stopsE_bd h1 (evE_zero (h3 k hk)).2.2.2 j hj
 exact stopE_bd h1 hla
def lksTo(s:Int)(p:Pce):Nat→List Lck
 | 0=>[]
 | k+1=>lksTo s p k++(match p.evs[k]? with|some e=>lackE s p k e|none=>[])
theorem lksTo_at (s:Int)(p:Pce) {k:Nat} (h:k<p.evs.length):lksTo s p (k+1)=lksTo s p k++lackE s p k p.evs[k]:=by
 show lksTo s p k++_=_
 rw [List.getElem?_eq_getElem h]
theorem lackE_len (s:Int)(p:Pce)(i:Int)(e:Ev)(h:e.stops.length≤20):(lackE s p i e).length≤63:=by
 rw [lackE_eq]
 have a:=lk1_len s i e.val
 have b:=lk2_len s i e.three
 have c:=lk3_len s i e.tie e.stops.length
 have d:=flat_len s i (fun c=>longestN p.evs i c) e.stops
 simp only [List.length_append];omega
theorem lksTo_len (s:Int) {p:Pce} (hO:PcOk p):∀ k,k≤p.evs.length→(lksTo s p k).length≤27000:=by
 have hn:=hO.n3
 have:∀ k,k≤p.evs.length→(lksTo s p k).length≤63*k:=by
  intro k
  induction k with
  | zero=>intro _;simp [lksTo]
  | succ k ih =>
   intro hk
   rw [lksTo_at s p (by omega),List.length_append]
   have:=ih zqo
   have:=lackE_len s p k p.evs[k] (hO.n4 k zqo)
   omega
 intro k hk
 have:=this k hk
 omega
end
section
open Go.RowKit
def locK {α:Type} [DecidableEq α] (k:α):Nat→List (α×Value)→Option (Nat×Value)
 | _,[]=>none
 | i,x::r=>if k=x.1 then some (i,x.2) else locK k (i+1) r
structure KeyK (P:Program) (kt:TypeId) {α:Type} [DecidableEq α] (enc:α→Value):Prop where
 chk:∀ w b k,(Instr.checkKey b 10000 kt (enc k)).run P w=.ok () w
 fnd:∀ w k (es:List MapEntry) (l:List (α×Value)),es.map (fun e=>(e.key,e.val))=l.map (fun x=>(enc x.1,x.2))→(Instr.findKey kt (enc k) es).run P w=.ok (locK k 0 l) w
 bits:∀ k,Instr.sameBits 10000 (enc k) (enc k)=true
section
variable {P:Program} {C:Cx} {σ σ':St} {G G':Gh} {a:Act} {w w':World} {o:Oper} {d:Tmp} {ops:Array Oper} {rest:List Oper} {Q:Exit→St→Prop}
end
end
section
open Go.RowKit
section
variable {P:Program} {C:Cx} {σ:St} {o:Oper} {d:Tmp} {ops:Array Oper} {rest:List Oper} {Q:Exit→St→Prop} {mem:List Bool} {Mc:List (Nat×AO)} {nk0 k:Nat}
theorem Tr.nilR {t:Tmp} (n:Nat) (h:look t σ.t=some (.sc (.slice none 0 0))):Tr C σ (σ.put t (.ls n [])):=fun G a w ok =>
 ⟨G,ok.reslot h (.ls _ _) fun v hv=>by rw [hv.sc_eq];exact .pu _ _ (.ls n [] none 0 ⟨0,0,none⟩ (fun _ _=>undef) (by simp) (by simp) (by simp) (by simp) (by simp))⟩
def truB:World→View→Prop:=fun _ _=>True
theorem truS:Stab truB 0:=⟨fun _ _ _=>Nat.zero_le _,fun _ _ _ _ _ _ _=>trivial⟩
theorem truH(C:Cx):Holds truB 0 C:=⟨fun _ _ _ _=>trivial,fun _ _=>Nat.zero_le _⟩
end
end
section
open Go.RowKit
section
variable {B:World→View→Prop} {gl:Nat} {P:Program} {C:Cx} {σ:St} {o:Oper} {d:Tmp} {ops:Array Oper} {rest:List Oper} {Q:Exit→St→Prop} {mem:List Bool} {Mc:List (Nat×AO)} {nk0 k:Nat}
theorem trM_same {σ σ':St} (h:σ'.M=σ.M) {ρ:Nat→Nat} {nk:Nat}:∀ {M:List (Nat×AO)},TrM σ ρ nk M→TrM σ' ρ nk M
 | [],_=>trivial
 | x::r,⟨h1,h2⟩=>⟨by rw [h];exact h1,trM_same h h2⟩
theorem DK.bt {φ:Prop} [i:Decidable φ] (hc:isCmp o.op=true)(h:stepD P C.N ops σ o=some (d,.sc (.bool (decide φ))))(hφ:φ)(k:DK P C ops rest (σ.put d (.sc (.bool true))) Q):DK P C ops (o::rest) σ Q:=by
 rw [decide_eq_true hφ] at h
 exact DK.st h k
theorem DK.bf {φ:Prop} [i:Decidable φ] (hc:isCmp o.op=true)(h:stepD P C.N ops σ o=some (d,.sc (.bool (decide φ))))(hφ:¬ φ)(k:DK P C ops rest (σ.put d (.sc (.bool false))) Q):DK P C ops (o::rest) σ Q:=by
 rw [decide_eq_false hφ] at h
 exact DK.st h k
end
end
section
open Go.RowKit
def lendB (M:List (Nat×AO)):AV→AV
 | .sl k=>match look k M with
  | some (.row _ n rows)=>.ls n rows
  | _=>.sl k
 | av=>av
section
variable {B:World→View→Prop} {gl:Nat} {P:Program} {C:Cx} {ops:Array Oper} {rest:List Oper} {σ σ':St} {G G':Gh} {a:Act} {w w':World} {o:Oper} {d:Tmp} {Q:Exit→St→Prop}
theorem lend_rp (ok:Ok C σ G a w) {av:AV} {v:Value} (h:R G av v) (hp:(lendB σ.M av).pu2=true):RP (fun q=>w.cell? q) (lendB σ.M av) v:=by
 have hF:G.F.le fun q=>w.cell? q:=fun p u x=>ok.fw p u x
 have std:lendB σ.M av=av→RP (fun q=>w.cell? q) (lendB σ.M av) v:=fun e=>by
  rw [e] at hp ⊢
  exact RP.mono hF ((pu2_bd hp 0).rp h)
 cases av with
 | sl k =>
  cases hk:look k σ.M with
  | none=>exact std (by simp only [lendB,hk])
  | some ob =>
   cases ob with
   | row T n rows =>
    have e:lendB σ.M (.sl k)=.ls n rows:=by simp only [lendB,hk]
    rw [e,h.sl_of.1]
    obtain ⟨_,_,hob⟩:=ok.ob k _ hk
    have:=RowIs.fix (F':=fun q=>w.cell? q) id hob.2.2 (fun _ _=>rfl) fun i r j av u ψ _ _ _ x=>RP.mono hF x
    simpa using this
   | _=>exact std (by simp only [lendB,hk])
 | _=>exact std rfl
theorem truST:∀ w F F',View.le F F'→truB w F→truB w F':=fun _ _ _ _ h=>h
def sixV (P:Program) (σ:St):Op→Option (List UInt8×Int)
 | .index T x y =>
  match P.underlying T,σ.ev x,σ.ev y with
  | some .string,some (.sc (.string ⟨⟨s⟩⟩)),some (.sc (.int _ i))=>some (s,i)
  | _,_,_=>none
 | _=>none
theorem run_six {T:TypeId} {s:List UInt8} {k:IntKind} {i:Int} (hT:P.underlying T=some .string) (h0:0≤i) (h1:i<s.length) :
  (Instr.index T (.string (bs s)) (.int k i)).run P w=.ok (.int .u8 ((s.getD i.toNat 0).toNat:Int)) w:=by
 have hl:i.toNat<s.length:=by omega
 have e:(bs s)[i.toNat]?=some (s.getD i.toNat 0):=by
  rw [List.getD_eq_getElem?_getD,List.getElem?_eq_getElem hl]
  have hs:i.toNat<(bs s).size:=by rw [bs_size];exact hl
  rw [getElem?_pos (bs s) i.toNat hs]
  rfl
 simp [Instr.index,asIntOf,run_underlying hT,h0,e]
theorem sixV_of {s:List UInt8} {i:Int} (h:sixV P σ o.op=some (s,i)) (hb:0≤i∧i<s.length):WV P C o σ (.sc (.int .u8 ((s.getD i.toNat 0).toNat:Int))):=by
 unfold sixV at h
 split at h
 ·rename_i T x y ho
  split at h
  ·rename_i s' k i' hT hx hy
   cases h
   refine WV.sc fun G a w ok=>?_
   unfold execOp
   simp only [ho,ok.evs hx,ok.evs hy,Sem.run_bind]
   have h6:(Instr.index T (.string ⟨⟨s⟩⟩) (.int k i)).run P w=.ok (.int .u8 ((s.getD i.toNat 0).toNat:Int)) w:=run_six hT hb.1 hb.2
   rw [h6];rfl
  ·cases h
 ·cases h
theorem WL.six {s:List UInt8} {i:Int} (hd:dstB C.N o=some d)(h:sixV P σ o.op=some (s,i))(hb:0≤i∧i<s.length)(k:WL P C ops rest (σ.put d (.sc (.int .u8 ((s.getD i.toNat 0).toNat:Int)))) Q):WL P C ops (o::rest) σ Q :=
 WL.vl hd (sixV_of h hb) k
end
end
section
open Go.RowKit
def onB:AV→Bool
 | .sc v=>v.oneCell'
 | .ls _ _=>true
 | _=>false
def lendP (M:List (Nat×AO)):AV→AV
 | .pt k 0 0=>match look k M with
  | some (.box _ cells)=>bif cells.all onB then .pr cells else .pt k 0 0
  | _=>.pt k 0 0
 | av=>lendB M av
def lendC (M:List (Nat×AO)):AV→AV
 | .fn f l=>.fn f (l.map (lendP M))
 | av=>lendP M av
section
variable {B:World→View→Prop} {gl:Nat} {P:Program} {C:Cx} {ops:Array Oper} {rest:List Oper} {σ σ':St} {G G':Gh} {a:Act} {w w':World} {o:Oper} {d:Tmp} {Q:Exit→St→Prop}
theorem onB_of {av:AV} {u:Value} (h:onB av=true)(r:R G av u):u.oneCell'=true∧RP G.F av u∧av.own=false:=by
 cases av with
 | sc v =>
  obtain rfl:=r.sc_eq
  exact⟨h,.sc _,rfl⟩
 | ls n rows =>
  have h2:RP G.F (.ls n rows) u:=(pu2_bd (av:=.ls n rows) rfl 0).rp r
  obtain⟨A,cap,ad,u',rfl,_⟩:=h2.ls_of
  exact⟨rfl,h2,rfl⟩
 | _=>cases h
theorem lendP_rp (ok:Ok C σ G a w) {av:AV} {v:Value} (h:R G av v) (hp:(lendP σ.M av).pu2=true):RP (fun q=>w.cell? q) (lendP σ.M av) v:=by
 have hF:G.F.le fun q=>w.cell? q:=fun p u x=>ok.fw p u x
 cases av with
 | pt k i j =>
  cases i with
  | succ i=>exact lend_rp ok h hp
  | zero =>
   cases j with
   | succ j=>exact lend_rp ok h hp
   | zero =>
    cases hk:look k σ.M with
    | none =>
     have e:lendP σ.M (.pt k 0 0)=.pt k 0 0:=by simp only [lendP,hk]
     rw [e] at hp;cases hp
    | some ob =>
     cases ob with
     | box T cells =>
      have e:lendP σ.M (.pt k 0 0)=bif cells.all onB then .pr cells else .pt k 0 0:=by simp only [lendP,hk]
      rw [e] at hp ⊢
      cases hc:cells.all onB with
      | false=>rw [hc] at hp;cases hp
      | true =>
       obtain ⟨p,rfl,h1,h2,h3⟩:=h.pt_of
       have hcell:∀ (j:Nat) av,cells[j]?=some av→∃ u,w.cell? (p.add j)=some u∧u.oneCell'=true∧RP G.F av u:=fun j av hj=>by
        have hb:=List.all_eq_true.1 hc av (List.mem_of_getElem? hj)
        have ho:av.own=false:=by cases av<;>first|rfl|cases hb
        obtain ⟨u,hu,hr,_⟩:=ok.cell (i:=0) (j:=0) (l:=cells) hk rfl hj h1 h2 h3 ho
        obtain ⟨q1,q2,_⟩:=onB_of hb hr
        exact ⟨u,hu,q1,q2⟩
       show RP _ (.pr cells) _
       refine .pr cells p (fun j=>(w.cell? (p.add j)).getD undef) (fun j av hj=>?_) (fun j av hj=>?_)
       ·obtain ⟨u,hu,q1,q2⟩:=hcell j av hj
        rw [hu];exact ⟨rfl,q1⟩
       ·obtain ⟨u,hu,q1,q2⟩:=hcell j av hj
        rw [hu];exact q2.mono hF
     | _ =>
      have e:lendP σ.M (.pt k 0 0)=.pt k 0 0:=by simp only [lendP,hk]
      rw [e] at hp;cases hp
 | _=>exact lend_rp ok h hp
theorem lendC_rp (ok:Ok C σ G a w) {av:AV} {v:Value} (h:R G av v) (hp:(lendC σ.M av).pu2=true):RP (fun q=>w.cell? q) (lendC σ.M av) v:=by
 cases av with
 | fn f l =>
  obtain ⟨cs,rfl,h1,h2⟩:=h.fn_of
  show RP _ (.fn f (l.map (lendP σ.M))) _
  refine .fn f _ cs (by rw [h1,List.length_map]) fun i av u a b=>?_
  rw [List.getElem?_map] at a
  cases hi:l[i]? with
  | none=>simp [hi] at a
  | some av0 =>
   simp only [hi,Option.map_some,Option.some.injEq] at a
   subst a
   refine lendP_rp ok (h2 i av0 u hi b) ?_
   have hall:(l.map (lendP σ.M)).all AV.pu00=true:=hp
   have h3:(lendP σ.M av0).pu00=true:=List.all_eq_true.1 hall _ (List.mem_of_getElem? (by rw [List.getElem?_map,hi];rfl))
   generalize lendP σ.M av0=q at h3 ⊢
   cases q<;>first|rfl|cases h3
 | _=>exact lendP_rp ok h hp
theorem WV.lendV (hB:Holds B gl C) {f:FuncId} {y:Operand} {fv:AV} {xs:Array Operand} {ts:Array TypeId} {args0 caps args args':List AV} {res:Value} (ho:o.op=.call { callee:=.value y,args:=xs,argTypes:=ts }) (hc:∀ vs w,(callFunc f vs).run P w=.ok (.enter f vs) w)
  (hy:σ.ev y=some fv) (hf:fnOf fv=some (f,caps)) (hx:σ.evs xs.toList=some args0) (hcat:args0++caps=args) (hl:args.map (lendC σ.M)=args') (hp:args'.all AV.pu2=true) (hst:∀ w F F',View.le F F'→B w F→B w F') (h:Ctg B P f args' (.sc res)):WV P C o σ (.sc res):=by
 intro G a w ok N Q' hN
 obtain ⟨cs,ey,h1,h2⟩:=fnOf_of hf (ok.evr hy).2
 obtain ⟨e1,e2⟩:=ok.evl2 hx h1 h2 hcat
 subst hl
 have hF:G.F.le fun q=>w.cell? q:=fun p u x=>ok.fw p u x
 refine call_wp ho hc ey (h w (fun q=>w.cell? q) _ (hst w _ _ hF (hB.1 w G.F ok.bel ok.f0)) (fun _ _ x=>x) ⟨by rw [e1,List.length_map],fun i av u p q=>?_⟩) fun e w1 ⟨v,F',he,hb,h1,h2,h3,h4⟩=>?_
 ·rw [List.getElem?_map] at p
  cases hi:args[i]? with
  | none=>simp [hi] at p
  | some av0 =>
   simp only [hi,Option.map_some,Option.some.injEq] at p
   subst p
   exact lendC_rp ok (e2 i av0 u hi q) (List.all_eq_true.1 hp _ (List.mem_of_getElem? (by rw [List.getElem?_map,hi];rfl)))
 ·have hv:=h4.sc_eq
  subst hv
  exact ⟨_,he,hN _ { G with F:=G.F } w1 (fun σ'' a'' ok''=>ok''.called hb (fun _ _ x=>x) (fun p u x=>by rw [hb.cell (cell_block (ok.fw p u x))];exact ok.fw p u x) (fun _ _ x=>.inl x)) (.pu _ _ (.sc _)) (RP.bd (F:=G.F) (.sc _) _)⟩
end
end
section
open Go.RowKit
def tame:Op→Bool
 | .move _=>true
 | .assign _=>true
 | .alloc _=>true
 | .box _ _=>true
 | .load _ _=>true
 | .store _ _ _=>true
 | .fieldAddr _ _ _=>true
 | .field _ _ _=>true
 | .indexAddr _ _ _=>true
 | .index _ _ _=>true
 | _=>false
structure Laid (ops A:Array Oper)(π ρ:Nat→Nat)(i j:Nat):Prop where
 sz:A.size=ops.size
 lt:∀ p,p<ops.size→π p<ops.size
 inv:∀ p,p<ops.size→ρ (π p)=p
 ltr:∀ q,q<ops.size→ρ q<ops.size
 inr:∀ q,q<ops.size→π (ρ q)=q
 hi:i<ops.size
 hj:j<ops.size
 op:∀ (p:Nat)(o:Oper),ops[p]?=some o→∃ X:Array Edge,A[π p]?=some { o with after:=X }∧(∀ e∈X,Region.binds .any e=true→(∃ e'∈o.after,Region.binds .any e'=true∧e.on=π e'.on)∨(p=j∧e.on=π i)) ∧
  (∀ e'∈o.after,Region.binds .any e'=true→∃ e∈X,Region.binds .any e=true∧e.on=π e'.on)
 tm:∀ (p:Nat)(o:Oper),ops[p]?=some o→tame o.op=true∧o.guard=none∧∀ e∈o.after,e.on<ops.size
structure Agr (n:Nat)(π:Nat→Nat)(L LA:Array Bool):Prop where
 s1:L.size=n
 s2:LA.size=n
 at_:∀ p,p<n→LA.getD (π p) false=L.getD p false
end
section
open Go.RowKit
def eLk (x:Lck):List AV:=[.sc (.int .i64 x.1),.sc (.int .i64 x.2.1),.sc (.int .i64 x.2.2)]
end
section
open Go.RowKit
attribute [local go_sem]mk_bs bs_size bs_toList bs_append bs_extract
attribute [local simp]run_cut run_cut_to run_cut_from run_add_bs
theorem phas_1 (n:Int)(w:World):Calls Tryz.prog 182 #[.agg #[],.int .i64 n] w (Ret (.bool (if (1:Int)=3 then n != 8 else if (1:Int)=4 then n == 8 else true)) w):=by
 go_enter Tryz.func182,Tryz.ntmps182
 go_wp2
 go_ret
 exact Ret.mk' rfl zqb
end
section
open Go.RowKit
attribute [local go_sem]mk_bs bs_size bs_toList bs_append bs_extract
attribute [local simp]run_cut run_cut_to run_cut_from run_add_bs
theorem phas_2 (n:Int)(w:World):Calls Tryz.prog 220 #[.agg #[],.int .i64 n] w (Ret (.bool (if (2:Int)=3 then n != 8 else if (2:Int)=4 then n == 8 else true)) w):=by
 go_enter Tryz.func220,Tryz.ntmps220
 go_wp2
 go_ret
 exact Ret.mk' rfl zqb
end
section
open Go.RowKit
attribute [local go_sem]mk_bs bs_size bs_toList bs_append bs_extract
attribute [local simp]run_cut run_cut_to run_cut_from run_add_bs
theorem phas_4 (n:Int)(w:World):Calls Tryz.prog 235 #[.agg #[],.int .i64 n] w (Ret (.bool (if (4:Int)=3 then n != 8 else if (4:Int)=4 then n == 8 else true)) w):=by
 go_enter Tryz.func235,Tryz.ntmps235
 go_wp2
 go_ret
 exact Ret.mk' rfl zqb
end
section
open Go.RowKit
attribute [local go_sem]mk_bs bs_size bs_toList bs_append bs_extract
attribute [local simp]run_cut run_cut_to run_cut_from run_add_bs
theorem right_any (v:Int) (d t:Bool) (w:World):Calls Tryz.prog 116 #[.agg #[.int .i64 v,.bool d,.bool t]] w (Ret (.bool (sgOk v d t)) w):=by
 by_cases h0:v=0
 ·subst h0
  cases d<;>cases t
  all_goals
   go_enter Tryz.func116,Tryz.ntmps116
   go_wp2
   go_ret
   exact Ret.mk' rfl zqb
 ·have hb:(v == 0)=false:=by simpa using h0
  have e:sgOk v d t=(decide (1≤v) && decide (v≤7) && !(d && t)):=by unfold sgOk;rw [hb];simp
  rw [e]
  clear e
  by_cases h1:1≤v
  ·by_cases h7:v≤7
   ·cases d<;>cases t
    all_goals
     go_enter Tryz.func116,Tryz.ntmps116
     go_wp2
     go_ret
     exact Ret.mk' (by simp [h1,h7]) zqb
   ·rw [show (decide (1≤v) && decide (v≤7) && !(d && t))=false from by rw [decide_eq_false h7];simp]
    go_enter Tryz.func116,Tryz.ntmps116
    go_wp2
    go_ret
    exact Ret.mk' rfl zqb
  ·rw [show (decide (1≤v) && decide (v≤7) && !(d && t))=false from by rw [decide_eq_false h1];simp]
   go_enter Tryz.func116,Tryz.ntmps116
   go_wp2
   go_ret
   exact Ret.mk' rfl zqb
end
section
open Go.RowKit
theorem rRight2_FS (v:Int)(d t:Bool):Ctr Tryz.prog 116 [.ag [.sc (.int .i64 v),.sc (.bool d),.sc (.bool t)]] (.sc (.bool (sgOk v d t))):=by
 intro w F vs hF hR
 match vs,hR.1 with
 | [x],_ =>
  obtain⟨cs,rfl,h1,h2⟩:∃ cs:Array Value,x=.agg cs∧cs.size=3∧∀ (i:Nat)av u,[AV.sc (.int .i64 v),.sc (.bool d),.sc (.bool t)][i]?=some av→cs[i]?=some u→RP F av u:=by
   cases hR.2 0 _ x rfl rfl with|ag l cs a b=>exact⟨cs,rfl,a,b⟩
  have g:∀ i (h:i<3),cs[i]?=some (cs[i]'(by omega)):=fun i h=>Array.getElem?_eq_getElem (by omega)
  have e:cs=#[.int .i64 v,.bool d,.bool t]:=by
   apply Array.ext (by simp [h1])
   intro i hi hi2
   match i,(show i<3 by omega)with
   | 0,_=>exact (h2 0 _ _ rfl (g 0 zqo)).sc_eq
   | 1,_=>exact (h2 1 _ _ rfl (g 1 zqo)).sc_eq
   | 2,_=>exact (h2 2 _ _ rfl (g 2 zqo)).sc_eq
  subst e
  exact (right_any v d t w).mono fun e w'⟨he,hb⟩=>⟨_,F,he,hb,fun _ _ h=>h,fun p u x=>by rw [hb.cell (cell_block (hF p u x))];exact hF p u x,fun _ _ h=>.inl h,.sc _⟩
theorem rLong_FS (p:Pce) (hO:PcOk p) (i x:Int):Ctr Tryz.prog 66 [ePce p,.sc (.int .i64 i),.sc (.int .i64 x)] (.sc (.int .i64 (longestN p.evs i x))) :=
 Ctr.of_pc (pre:=[]) (post:=[.sc (.int .i64 i),.sc (.int .i64 x)]) rfl rfl (fun _=>.sc _) fun w M hM=>rLongest_any M p i x w hM hO
end
section
open Go.RowKit
theorem pcOk_of2 {p:Pce} (h:bigB p=false):PcOk p:=by
 unfold bigB at h
 simp only [Bool.or_eq_false_iff,decide_eq_false_iff_not,List.any_eq_false]at h
 obtain⟨h1,h2,h3,h4⟩:=h
 refine⟨by omega,by omega,by omega,fun k hk=>?_⟩
 have:=h4 _ (List.getElem_mem hk)
 simp at this
 exact this
theorem big_FS (p:Pce):Ctr Tryz.prog 25 [ePce p] (.sc (.bool (bigB p))) :=
 Ctr.of_pc (pre:=[]) (post:=[]) rfl rfl (fun _=>.sc _) fun w M hM=>big_any M p w hM
end
end Go.Proofs.YtaeelcfjkhfpkaaGreat
