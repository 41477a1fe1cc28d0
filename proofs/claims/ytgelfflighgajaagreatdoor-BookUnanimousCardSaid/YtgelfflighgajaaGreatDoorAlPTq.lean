/- The alignment of two lists of events, plain. -/
import Derived.Test.YtgelfflighgajaaGreatDoorRows
import Derived.LaidMore
import Derived.Stop.Joined
import Derived.Stop.LaidErr
import Derived.Test.YtgelfflighgajaaGreatDoorG2Tq
set_option maxHeartbeats 8000000
set_option maxRecDepth 100000
set_option linter.unusedVariables false
set_option linter.unusedSimpArgs false
namespace Go.Proofs.YtgelfflighgajaaGreatDoor
open Go.RowKit
theorem z0k {α : Sort _} {a b : α} (h : a = b := by kernel_rfl) : a = b := h
theorem z0l {m n : Nat} (h : m = n := by first | exact List.length_map _ | exact List.length_replicate | rfl) : m = n := h
theorem z0u {C : Cx} {σ σ' : St} (ρ : Nat → Nat) (hm : TrM σ ρ σ'.nk σ'.M) (hi : (injB ρ (σ'.M.map (·.1)) && pinB ρ σ'.nk C.np) = true) (ht : TrT σ ρ σ'.nk σ'.t := by repeat (first | exact trivial | refine ⟨⟨?_, ?_⟩, ?_⟩ | rfl)) : Tr C σ σ' := Tr.ren ρ ht hm hi
def tabB (w:World) (F:View):Prop :=
 (∀ (i:Nat)v,ftL[i]?=some v→F ⟨0,i,none⟩=some (.int .i64 v))∧(∀ (i:Nat)v,bsL[i]?=some v→F ⟨1,i,none⟩=some (.int .i64 v)) ∧
 Lib.TabIs Tryz.prog w "internal/strconv.uint64pow10" .u64 Lib.pow10Tab
def gloB:Nat:=3+1
theorem pow10_at:Tryz.prog.globalNamed "internal/strconv.uint64pow10"=some 3:=by kernel_rfl
theorem var_some {w:World} {cs:Array Value} (h:w.var? Tryz.prog "internal/strconv.uint64pow10"=some cs):gloB≤w.heap.size:=by
 unfold World.var? at h
 rw [pow10_at]at h
 rcases Nat.lt_or_ge 3 w.heap.size with h1|h1
 ·exact h1
 ·simp [Array.getElem?_eq_none h1]at h
theorem stabB:Stab tabB gloB:=⟨fun w F h=>var_some h.2.2,fun w w' F F' hb hF h=>⟨fun i v x=>hF _ _ (h.1 i v x),fun i v x=>hF _ _ (h.2.1 i v x),by
 have h3:=h.2.2
 unfold Lib.TabIs World.var? at h3 ⊢
 rw [pow10_at]at h3 ⊢
 simp only [Option.bind_some]at h3 ⊢
 rw [hb _ (Nat.lt_succ_self _)];exact h3⟩⟩
theorem tab_fifths {z:Int} (h:0≤z∧z≤6):∀ w F,tabB w F→F ⟨0,z.toNat,none⟩=some (.int .i64 (ftV z)):=fun w F hB=>hB.1 _ _ (ftV_at h)
theorem tab_bases {z:Int} (h:0≤z∧z≤6):∀ w F,tabB w F→F ⟨1,z.toNat,none⟩=some (.int .i64 (basV z)):=fun w F hB=>hB.2.1 _ _ (basV_at h)
theorem Ctg.of_sc {B:World→View→Prop} {P:Program} {f:FuncId} {args:List AV} {xs:List Value} {res:AV} {v:Value} (hs:scs args=some xs)(hv:∀ F,RP F res v)(h:∀ w F,B w F→Calls P f xs.toArray w (Ret v w)):Ctg B P f args res:=by
 intro w F vs hB hF hR
 have:vs=xs:=scs_of (G:=⟨F,fun _=>0,fun _=>0,fun _=>undef,fun _ _=>False⟩) hs hR.1 fun i av u a b=>.pu _ _ (hR.2 i av u a b)
 subst this
 exact (h w F hB).mono fun e w'⟨he,hb⟩=>⟨v,F,he,hb,fun _ _ h=>h,fun p u x=>by rw [hb.cell (cell_block (hF p u x))];exact hF p u x,fun _ _ h=>.inl h,hv F⟩
theorem itoa_G (n:Int)(h:I64 n):Ctg tabB Tryz.prog 116 [.sc (.int .i64 n)] (.sc (.string (bs (Lib.itoa n)))) :=
 Ctg.of_sc (v:=.string (bs (Lib.itoa n))) rfl (fun _=>.sc _) fun w F hB=>(Tryz.strconv_Itoa n h.1 (by have:=h.2;omega) w hB.2.2).mono fun e w'⟨he,k,os,hw⟩=>⟨he,by
  subst hw
  refine⟨rfl,rfl,rfl,?_,fun i hi=>?_⟩
  ·show w.heap.size≤(w.heap++os).size
   rw [Array.size_append];omega
  ·show (w.heap++os)[i]?=w.heap[i]?
   rw [Array.getElem?_append_left hi]⟩
end Go.Proofs.YtgelfflighgajaaGreatDoor
namespace Go.Proofs.YtgelfflighgajaaGreatDoor
open Go.ChangeShapes Go.WideShapes Go.ChangeAt Go.RowKit
def laidT:List (String×DataW Unit):=[("math/bits.deBruijn32tab",Rows.laid_math_bits_deBruijn32tab),("math/bits.deBruijn64tab",Rows.laid_math_bits_deBruijn64tab),("internal/strconv.uint64pow10",Rows.laid_internal_strconv_uint64pow10),("theorbo/instrument.bases",Rows.laid_theorbo_instrument_bases),("theorbo/instrument.fifths",Rows.laid_theorbo_instrument_fifths)]
theorem ownT:ownKnob Tryz.prog.godebug=none:=by kernel_rfl
theorem tab_of_laid {W:World} (h:laidMetH Tryz.prog laidT W):tabB W (fun p=>W.cell? p):=by
 rw [MakeChecks.laidMetH_plain _ _ _ z0k] at h
 have h3:=h.tail.tail
 have e1:Lib.TabIs Tryz.prog W "internal/strconv.uint64pow10" .u64 Lib.pow10Tab :=
  Lib.tabIs_of_head (g:=3) (t:=344) (e:=322) (n:=20) z0k z0k Tryz.underlying344 Tryz.underlying322 z0k z0k h3
 have e2:Lib.TabIs Tryz.prog W "theorbo/instrument.bases" .i64 bsL :=
  Lib.tabIs_of_head (g:=1) (t:=303) (e:=3) (n:=7) z0k z0k Tryz.underlying303 Tryz.underlying3 z0k z0k h3.tail
 have e3:Lib.TabIs Tryz.prog W "theorbo/instrument.fifths" .i64 ftL :=
  Lib.tabIs_of_head (g:=0) (t:=303) (e:=3) (n:=7) z0k z0k Tryz.underlying303 Tryz.underlying3 z0k z0k h3.tail.tail
 have get:∀ (l:List Int) (i:Nat) v,l[i]?=some v→i<l.length∧l.getD i 0=v:=fun l i v hv=>by
  obtain ⟨hi,e⟩:=List.getElem?_eq_some_iff.1 hv
  exact ⟨hi,by rw [List.getD_eq_getElem?_getD,hv];rfl⟩
 refine ⟨fun i v hv=>?_,fun i v hv=>?_,e1⟩
 ·obtain ⟨hi,e⟩:=get _ _ _ hv
  rw [← e];exact e3.cell z0k i hi
 ·obtain ⟨hi,e⟩:=get _ _ _ hv
  rw [← e];exact e2.cell z0k i hi
theorem door_met (os:Os) (args:Array Value):laidMetH Tryz.prog laidT ((World.doorLaid Tryz.prog 400 os).forCall (fun _ _=>0) ⟨#[],args,[]⟩).memory :=
 laidMetH_of_parts3 (fuel:=8) (laidMet_of_run' 8 z0k z0k) z0k z0k
end Go.Proofs.YtgelfflighgajaaGreatDoor
namespace Go.Proofs.YtgelfflighgajaaGreatDoor
open Go.RowKit
def sgF(evs:List Ev):Nat→Int×Bool×Bool
 | 0=>(0,false,false)
 | k+1=>match evs[k]? with
  | some e=>if e.val=0 then sgF evs k else(e.val,e.dot,e.three)
  | none=>sgF evs k
def eSig (x:Int×Bool×Bool):List AV:=[.sc (.int .i64 x.1),.sc (.bool x.2.1),.sc (.bool x.2.2)]
def sgL (evs:List Ev)(k:Nat):List (Int×Bool×Bool):=(List.range k).map fun i=>sgF evs (i+1)
theorem sgL_succ (evs:List Ev)(k:Nat):sgL evs (k+1)=sgL evs k++[sgF evs (k+1)]:=by simp [sgL,List.range_succ]
theorem sgL_length(evs:List Ev)(k:Nat):(sgL evs k).length=k:=by simp [sgL]
theorem rForces_FS (p:Pce) (hO:PcOk p):Ctr Tryz.prog 68 [ePce p] (.ls 3 ((sgL p.evs p.evs.length).map eSig)):=by
 have hn3:=hO.n3
 refine Ctr.intro Tryz.func68 rfl Tryz.ntmps68 (Nat.le_of_ble_eq_true rfl) (bd_all rfl) fun w0 F0=>?_;dsimp only [St.init,number,Nat.reduceAdd]
 repeat refine W.go rfl ?_
 refine (?_:W _ _ _ _ _)
 refine W.tr (Tr.nil (t:=3) 33 3 rfl rfl) ?_
 dsimp only [St.put,St.new,St.upd,Nat.reduceAdd]
 refine W.loop (fun k:Nat=>k≤p.evs.length) (fun k=>⟨[(1,.pt 0 0 0),(3,.sl 2),(4,.pt 1 0 0),(5,.sc (.int .i64 k))],[(0,.box 28 (ePce p).cells),(1,.box 33 (eSig (sgF p.evs k))),(2,.row 33 3 ((sgL p.evs k).map eSig))],3⟩) (fun k=>p.evs.length - k) 0 (by omega) (z0u (fun q=>q) (by repeat (first|exact trivial|refine ⟨⟨?_,?_,?_⟩,?_⟩|rfl|exact congrArg (fun q=>some (AO.row _ _ q)) (by first|rfl|(simp;done)|(simp [eInt];done)|(simp [eLk];done)))) rfl) fun k hk=>?_
 have hsl:=sgL_length p.evs k
 by_cases hlt:k < p.evs.length
 rotate_left
 ·obtain rfl:k=p.evs.length:=by omega
  repeat (first|refine W.gob rfl ?_|refine WL.nil ?_|refine WL.bf rfl rfl rfl (by omega) ?_|refine WL.e1 rfl ?_|refine WL.len rfl rfl z0l ?_|refine W.condF rfl ?_)
  refine (?_:W _ _ _ _ _)
  refine W.tr (Tr.freeze 2 rfl) ?_
  exact W.ret (fin1 rfl rfl rfl rfl)
 have e1:sgF p.evs (k+1)=if p.evs[k].val=0 then sgF p.evs k else (p.evs[k].val,p.evs[k].dot,p.evs[k].three):=by
  show (match p.evs[k]? with|some e=>_|none=>_)=_
  rw [List.getElem?_eq_getElem hlt]
 have e2:=sgL_succ p.evs k
 by_cases hv:p.evs[k].val=0
 ·rw [if_pos hv] at e1
  rw [e1] at e2
  repeat (first|refine W.gob rfl ?_|refine WL.nil ?_|refine WL.bt rfl rfl rfl (by omega) ?_|refine WL.nf rfl rfl rfl (by omega) ?_|refine WL.e1 rfl ?_|refine WL.ar rfl rfl (by unfold I64;omega) ?_|refine WL.len rfl rfl z0l ?_|refine WL.idx rfl rfl (by omega) (by first|exact map_at (by omega)|exact map_atZ (by omega) (by omega)) ?_|refine WL.app rfl rfl rfl (by first|omega|(simp;done)|(simp;omega)) ?_|refine W.condT rfl ?_|refine W.condF rfl ?_)
  refine ⟨k+1,by omega,by omega,?_⟩
  rw [e2,e1]
  exact (z0u (fun q=>bif Nat.beq q 2 then 4 else q) (by repeat (first|exact trivial|refine ⟨⟨?_,?_,?_⟩,?_⟩|rfl|exact congrArg (fun q=>some (AO.row _ _ q)) (by rw [List.map_append];rfl))) rfl)
 ·rw [if_neg hv] at e1
  rw [e1] at e2
  repeat (first|refine W.gob rfl ?_|refine WL.nil ?_|refine WL.bt rfl rfl rfl (by omega) ?_|refine WL.nt rfl rfl rfl (by omega) ?_|refine WL.e1 rfl ?_|refine WL.ar rfl rfl (by unfold I64;omega) ?_|refine WL.len rfl rfl z0l ?_|refine WL.idx rfl rfl (by omega) (by first|exact map_at (by omega)|exact map_atZ (by omega) (by omega)) ?_|refine WL.app rfl rfl rfl (by first|omega|(simp;done)|(simp;omega)) ?_|refine W.condT rfl ?_)
  refine ⟨k+1,by omega,by omega,?_⟩
  rw [e2,e1]
  exact (z0u (fun q=>bif Nat.beq q 2 then 4 else q) (by repeat (first|exact trivial|refine ⟨⟨?_,?_,?_⟩,?_⟩|rfl|exact congrArg (fun q=>some (AO.row _ _ q)) (by rw [List.map_append];rfl))) rfl)
end Go.Proofs.YtgelfflighgajaaGreatDoor
namespace Go.Proofs.YtgelfflighgajaaGreatDoor
open Go.RowKit
theorem crsE_fr {st:List Int}:∀ {cs:List (Int×Int×Bool)},crsE st cs=0→∀ k (h:k<cs.length),0≤cs[k].2.1∧cs[k].2.1≤st.length:=by
 intro cs
 induction cs with
 | nil=>intro _ k h;simp at h
 | cons x r ih =>
  intro h k hk
  unfold crsE at h
  by_cases h1:x.2.1<0∨(st.length:Int)<x.2.1
  ·rw [if_pos h1]at h;cases h
  ·rw [if_neg h1]at h
   by_cases h2:(x.1<0∨127<x.1)∨127<topOf st x
   ·rw [if_pos h2]at h;cases h
   ·rw [if_neg h2]at h
    cases k with
    | zero=>simp;omega
    | succ k=>simpa using ih h k (by simpa using hk)
theorem stopE_bd {p:Pce} {i last:Int} {s:Stp} (hI:insE p.cs p.st=0)(h:stopE p i s last=0) :
  (1≤s.1∧s.1≤14)∧(0≤s.2.1∧s.2.1≤18)∧(0≤s.2.2.1∧s.2.2.1≤3)∧(0≤s.2.2.2.1∧s.2.2.2.1≤4)∧(0≤s.2.2.2.2∧s.2.2.2.2≤15):=by
 obtain⟨l1,l2,l3,_,l5⟩:=insE_len hI
 unfold stopE at h
 by_cases h1:s.1<1∨(p.cs.length:Int)<s.1
 ·rw [if_pos h1]at h;cases h
 ·rw [if_neg h1]at h
  by_cases h2:s.2.1<0∨fretsOf p.cs s.1<s.2.1
  ·rw [if_pos h2]at h;cases h
  ·rw [if_neg h2]at h
   by_cases h3:s.1≤last
   ·rw [if_pos h3]at h;cases h
   ·rw [if_neg h3]at h
    by_cases h4:(s.2.2.1<0∨3<s.2.2.1)∨(s.2.2.2.1<0∨4<s.2.2.2.1)
    ·rw [if_pos h4]at h;cases h
    ·rw [if_neg h4]at h
     by_cases h5:(s.2.2.2.2<0∨(longestN p.evs i s.1:Int)<s.2.2.2.2)∨(0<s.2.2.2.2∧s.2.1=0)
     ·rw [if_pos h5]at h;cases h
     ·have hL:=longestN_le p.evs i s.1
      have hk:s.1.toNat-1<p.cs.length:=by omega
      have hf:fretsOf p.cs s.1=p.cs[s.1.toNat-1].2.1:=by
       have:=fretsOf_at hk
       rw [← this];congr 1;omega
      have:=crsE_fr l5 _ hk
      refine⟨⟨by omega,by omega⟩,⟨by omega,by omega⟩,⟨by omega,by omega⟩,⟨by omega,by omega⟩,by omega,by omega⟩
theorem stopsE_bd {p:Pce} {i:Int} (hI:insE p.cs p.st=0):∀ {l:List Stp} {last:Int},stopsE p i last l=0→∀ k (h:k<l.length),∃ la,stopE p i l[k] la=0:=by
 intro l
 induction l with
 | nil=>intro _ _ k h;simp at h
 | cons x r ih =>
  intro last h k hk
  unfold stopsE at h
  by_cases h1:stopE p i x last≠0
  ·rw [if_pos h1] at h;exact absurd h h1
  ·rw [if_neg h1] at h
   cases k with
   | zero=>exact⟨last,by simpa using h1⟩
   | succ k=>simpa using ih h k (by simpa using hk)
theorem evsE_bd {p:Pce}:∀ {l:List Ev} {n:Nat},evsE p n l=0→∀ k (h:k<l.length),evE p ((n+k:Nat):Int) l[k]=0:=by
 intro l
 induction l with
 | nil=>intro _ _ k h;simp at h
 | cons x r ih =>
  intro n h k hk
  unfold evsE at h
  by_cases h1:evE p n x≠0
  ·rw [if_pos h1] at h;exact absurd h h1
  ·rw [if_neg h1] at h
   cases k with
   | zero=>simpa using h1
   | succ k =>
    have:=ih h k (by simpa using hk)
    rw [show n+1+k=n+(k+1) by omega] at this
    simpa using this
theorem pceE_zero {p:Pce} (h:pceE p=0):insE p.cs p.st=0∧p.evs.length≤400∧∀ k(hk:k<p.evs.length),evE p k p.evs[k]=0:=by
 unfold pceE at h
 by_cases h1:insE p.cs p.st≠0
 ·rw [if_pos h1]at h;exact absurd h h1
 ·rw [if_neg h1]at h
  by_cases h2:400<p.evs.length
  ·rw [if_pos h2]at h;cases h
  ·rw [if_neg h2]at h
   refine⟨by simpa using h1,by omega,fun k hk=>?_⟩
   have:=evsE_bd h k hk
   simpa using this
theorem evE_zero {p:Pce} {i:Int} {e:Ev} (h:evE p i e=0):sgOk e.val e.dot e.three=true∧¬ (i=0∧e.val=0)∧¬ (e.tie=true∧(0<e.stops.length∨i=0))∧stopsE p i 0 e.stops=0:=by
 unfold evE at h
 by_cases h1:sgOk e.val e.dot e.three=false∨(i=0∧e.val=0)
 ·rw [if_pos h1] at h;cases h
 ·rw [if_neg h1] at h
  by_cases h2:e.tie=true∧(0<e.stops.length∨i=0)
  ·rw [if_pos h2] at h;cases h
  ·rw [if_neg h2] at h
   refine⟨?_,fun x=>h1 (.inr x),h2,h⟩
   cases hs:sgOk e.val e.dot e.three with
   | true=>rfl
   | false=>exact absurd (.inl hs) h1
theorem stopsIn_of {p:Pce} (h:pceE p=0)(k:Nat)(hk:k<p.evs.length):StopsIn p.evs[k]:=by
 obtain⟨h1,h2,h3⟩:=pceE_zero h
 intro j hj
 obtain⟨la,hla⟩:=stopsE_bd h1 (evE_zero (h3 k hk)).2.2.2 j hj
 exact stopE_bd h1 hla
def lksTo(s:Int)(p:Pce):Nat→List Lck
 | 0=>[]
 | k+1=>lksTo s p k++(match p.evs[k]? with|some e=>lackE s p k e|none=>[])
theorem lksTo_at (s:Int)(p:Pce) {k:Nat} (h:k<p.evs.length):lksTo s p (k+1)=lksTo s p k++lackE s p k p.evs[k]:=by
 show lksTo s p k++_=_
 rw [List.getElem?_eq_getElem h]
theorem lackE_len (s:Int)(p:Pce)(i:Int)(e:Ev)(h:e.stops.length≤20):(lackE s p i e).length≤63:=by
 rw [lackE_eq]
 have a:=lk1_len s i e.val
 have b:=lk2_len s i e.three
 have c:=lk3_len s i e.tie e.stops.length
 have d:=flat_len s i (fun c=>longestN p.evs i c) e.stops
 simp only [List.length_append];omega
theorem lksTo_len (s:Int) {p:Pce} (hO:PcOk p):∀ k,k≤p.evs.length→(lksTo s p k).length≤27000:=by
 have hn:=hO.n3
 have:∀ k,k≤p.evs.length→(lksTo s p k).length≤63*k:=by
  intro k
  induction k with
  | zero=>intro _;simp [lksTo]
  | succ k ih =>
   intro hk
   rw [lksTo_at s p (by omega),List.length_append]
   have:=ih (by omega)
   have:=lackE_len s p k p.evs[k] (hO.n4 k (by omega))
   omega
 intro k hk
 have:=this k hk
 omega
end Go.Proofs.YtgelfflighgajaaGreatDoor
namespace Go.Proofs.YtgelfflighgajaaGreatDoor
open Go.RowKit
structure StpOk(p:Pce)(k:Nat)(x:Stp):Prop where
 crs:1≤x.1∧x.1≤p.cs.length
 c14:x.1≤14
 fret:0≤x.2.1∧x.2.1≤fretsOf p.cs x.1
 f18:x.2.1≤18
 hold:0≤x.2.2.2.2∧x.2.2.2.2≤longestN p.evs k x.1
 h0:0<x.2.2.2.2→x.2.1≠0
theorem stpOk_of {p:Pce} {i:Nat} {last:Int} {s:Stp} (hI:insE p.cs p.st=0)(h:stopE p i s last=0):StpOk p i s∧last<s.1:=by
 have hb:=stopE_bd hI h
 unfold stopE at h
 by_cases h1:s.1<1∨(p.cs.length:Int)<s.1
 ·rw [if_pos h1]at h;cases h
 ·rw [if_neg h1]at h
  by_cases h2:s.2.1<0∨fretsOf p.cs s.1<s.2.1
  ·rw [if_pos h2]at h;cases h
  ·rw [if_neg h2]at h
   by_cases h3:s.1≤last
   ·rw [if_pos h3]at h;cases h
   ·rw [if_neg h3]at h
    by_cases h4:(s.2.2.1<0∨3<s.2.2.1)∨(s.2.2.2.1<0∨4<s.2.2.2.1)
    ·rw [if_pos h4]at h;cases h
    ·rw [if_neg h4]at h
     by_cases h5:(s.2.2.2.2<0∨(longestN p.evs i s.1:Int)<s.2.2.2.2)∨(0<s.2.2.2.2∧s.2.1=0)
     ·rw [if_pos h5]at h;cases h
     ·exact⟨⟨by omega,by omega,by omega,by omega,by omega,by omega⟩,by omega⟩
theorem stopsE_ok {p:Pce} {i:Nat} (hI:insE p.cs p.st=0):∀ {l:List Stp} {last:Int},stopsE p i last l=0→(∀ x∈l,StpOk p i x∧last<x.1)∧l.Pairwise fun x y=>x.1<y.1:=by
 intro l
 induction l with
 | nil=>intro _ _;exact⟨fun x hx=>(by cases hx),.nil⟩
 | cons x r ih =>
  intro last h
  unfold stopsE at h
  by_cases h1:stopE p i x last≠0
  ·rw [if_pos h1] at h;exact absurd h h1
  ·rw [if_neg h1] at h
   have hx:=stpOk_of hI (by simpa using h1:stopE p i x last=0)
   obtain⟨q1,q2⟩:=ih h
   refine⟨fun y hy=>?_,.cons (fun y hy=>(q1 y hy).2) q2⟩
   rcases List.mem_cons.1 hy with rfl|hy
   ·exact hx
   ·exact⟨(q1 y hy).1,by have:=(q1 y hy).2;omega⟩
structure EvOk(p:Pce)(k:Nat)(e:Ev):Prop where
 sg:sgOk e.val e.dot e.three=true
 first:¬ ((k:Int)=0∧e.val=0)
 tie:e.tie=true→e.stops=[]∧0<k
 stops:∀ x∈e.stops,StpOk p k x
 asc:e.stops.Pairwise fun x y=>x.1<y.1
theorem evOk_of {p:Pce} (h:pceE p=0) {k:Nat} (hk:k<p.evs.length):EvOk p k p.evs[k]:=by
 obtain ⟨h1,h2,h3⟩:=pceE_zero h
 obtain ⟨a,b,c,d⟩:=evE_zero (h3 k hk)
 obtain ⟨q1,q2⟩:=stopsE_ok h1 d
 refine ⟨a,b,fun ht=>?_,fun x hx=>(q1 x hx).1,q2⟩
 have:¬ (0<p.evs[k].stops.length∨(k:Int)=0):=fun hh=>c ⟨ht,hh⟩
 exact ⟨List.eq_nil_of_length_eq_zero (by omega),by omega⟩
theorem runL_le'(c:Int):∀ (n:Nat)(l:List Ev),runL c n l≤l.length:=by
 intro n
 induction n with
 | zero=>intro l;unfold runL;first|exact Nat.zero_le _|(split<;>exact Nat.zero_le _)
 | succ n ih =>
  intro l
  cases l with
  | nil=>simp [runL]
  | cons e r =>
   unfold runL
   split
   ·exact Nat.zero_le _
   ·have:=ih r;simp;omega
theorem longestN_end {evs:List Ev} {i:Nat} (h:i<evs.length)(c:Int):i+longestN evs i c+1≤evs.length:=by
 unfold longestN
 rw [if_neg (by omega)]
 have:=runL_le' c 15 (evs.drop ((i:Int).toNat+1))
 simp only [Int.toNat_natCast,List.length_drop]at this ⊢
 omega
end Go.Proofs.YtgelfflighgajaaGreatDoor
namespace Go.Proofs.YtgelfflighgajaaGreatDoor
open Go.RowKit
structure Va where
 kd:Int
 pl:Int
 ev:Ev
def sgW(e:Ev)(s:Int×Bool×Bool):Ev:={ e with val:=s.1,dot:=s.2.1,three:=s.2.2 }
def plN (evs:List Ev):Nat→List Ev
 | 0=>[]
 | k+1=>plN evs k++match evs[k]? with
  | some e=>[sgW e (sgF evs (k+1))]
  | none=>[]
theorem plN_at {evs:List Ev} {k:Nat} (h:k<evs.length):plN evs (k+1)=plN evs k++[sgW evs[k] (sgF evs (k+1))]:=by
 show plN evs k++(match evs[k]? with|some e=>_|none=>_)=_
 rw [List.getElem?_eq_getElem h]
theorem plN_length {evs:List Ev}:∀ {k:Nat},k≤evs.length→(plN evs k).length=k
 | 0,_=>rfl
 | k+1,h=>by rw [plN_at (by omega),List.length_append,plN_length (by omega)];rfl
def plE(p:Pce):List Ev:=plN p.evs p.evs.length
theorem plE_length (p:Pce):(plE p).length=p.evs.length:=plN_length (Nat.le_refl _)
def noP:Pce:=⟨[],[],[]⟩
def plP(p:Pce):Pce:=if pceE p=0 then⟨p.cs,p.st,plE p⟩else noP
theorem sgF_at {evs:List Ev} {k:Nat} (h:k<evs.length):sgF evs (k+1)=if evs[k].val=0 then sgF evs k else (evs[k].val,evs[k].dot,evs[k].three):=by
 show (match evs[k]? with|some e=>_|none=>_)=_
 rw [List.getElem?_eq_getElem h]
theorem plN_stops {evs:List Ev}:∀ {k:Nat},k≤evs.length→∀ e∈plN evs k,∃ f∈evs,e.stops=f.stops
 | 0,_,e,h=>by cases h
 | k+1,hk,e,h=>by
  rw [plN_at (by omega)] at h
  rcases List.mem_append.1 h with h|h
  ·exact plN_stops (by omega) e h
  ·rw [List.mem_singleton] at h
   exact⟨evs[k],List.getElem_mem _,by rw [h];rfl⟩
end Go.Proofs.YtgelfflighgajaaGreatDoor
namespace Go.Proofs.YtgelfflighgajaaGreatDoor
open Go.RowKit
def ple(s t:Stp):Bool:=s.1 == t.1 && s.2.1 == t.2.1
def hasP(b:List Stp)(s:Stp):Bool:=b.any fun t=>ple s t
def extN(a b:List Stp):Nat:=(a.filter fun s=>!hasP b s).length
def dstE(a b:Ev):Int:=extN a.stops b.stops+extN b.stops a.stops+(if tkV a.val a.dot a.three=tkV b.val b.dot b.three then 0 else 1)+(if a.tie=b.tie then 0 else 1)
def alnE(e:Ev):Int:=1+e.stops.length
theorem extN_le(a b:List Stp):extN a b≤a.length:=List.length_filter_le _ _
def extK (a b:List Stp)(k:Nat):Nat:=extN (a.take k) b
theorem extK_succ {a b:List Stp} {k:Nat} (h:k<a.length):extK a b (k+1)=if hasP b a[k]=true then extK a b k else extK a b k+1:=by
 unfold extK extN
 rw [List.take_succ_eq_append_getElem h,List.filter_append,List.length_append]
 cases hp:hasP b a[k]with
 | true=>simp [List.filter_cons,hp]
 | false=>simp [List.filter_cons,hp]
theorem extK_all(a b:List Stp):extK a b a.length=extN a b:=by unfold extK;rw [List.take_length]
theorem extK_le (a b:List Stp)(k:Nat):extK a b k≤k:=by
 have:=extN_le (a.take k) b
 rw [List.length_take] at this
 unfold extK;omega
theorem dstE_bd(a b:Ev):0≤dstE a b∧dstE a b≤a.stops.length+b.stops.length+2:=by
 have h1:=extN_le a.stops b.stops
 have h2:=extN_le b.stops a.stops
 unfold dstE
 split<;>split<;>omega
def csE:List Ev→Int
 | []=>0
 | y::s=>alnE y+csE s
def csI (x:Ev) (f:List Ev→Int):List Ev→Int
 | []=>alnE x+f []
 | y::s=>min (min (dstE x y+f s) (alnE x+f (y::s))) (alnE y+csI x f s)
def cst:List Ev→List Ev→Int
 | []=>csE
 | x::r=>csI x (cst r)
theorem alnE_pos(e:Ev):1≤alnE e:=by unfold alnE;omega
theorem csE_nn:∀ l,0≤csE l
 | []=>Int.le_refl _
 | y::s=>by have:=csE_nn s;have:=alnE_pos y;unfold csE;omega
theorem csI_nn {x:Ev} {f:List Ev→Int} (hf:∀ l,0≤f l):∀ l,0≤csI x f l
 | []=>by have:=hf [];have:=alnE_pos x;unfold csI;omega
 | y::s=>by
  have h1:=csI_nn (x:=x) hf s
  have h2:=hf s
  have h3:=hf (y::s)
  have h4:=alnE_pos x
  have h5:=alnE_pos y
  have h6:=(dstE_bd x y).1
  unfold csI;omega
theorem cst_nn:∀ a b,0≤cst a b
 | [],b=>csE_nn b
 | x::r,b=>csI_nn (cst_nn r) b
theorem cst_le:∀ a b,cst a b≤csE a+csE b
 | [],b=>by show csE b≤csE []+csE b;unfold csE;have:=csE_nn b;cases b<;>simp [csE]
 | x::r,[]=>by
  have:=cst_le r []
  show alnE x+cst r []≤(alnE x+csE r)+csE []
  omega
 | x::r,y::s=>by
  have:=cst_le r (y::s)
  show min (min (dstE x y+cst r s) (alnE x+cst r (y::s))) (alnE y+csI x (cst r) s)≤(alnE x+csE r)+csE (y::s)
  omega
theorem csE_bd {l:List Ev} (h:∀ e∈l,e.stops.length≤20):csE l≤21*l.length:=by
 induction l with
 | nil=>simp [csE]
 | cons y s ih =>
  have h1:=ih fun e he=>h e (List.mem_cons_of_mem _ he)
  have h2:=h y (by simp)
  simp only [csE,alnE,List.length_cons];omega
def csA (a b:List Ev) (i k:Nat):Int:=cst (a.drop i) (b.drop k)
theorem csA_nn(a b:List Ev)(i k:Nat):0≤csA a b i k:=cst_nn _ _
theorem csA_bd {a b:List Ev} (ha:∀ e∈a,e.stops.length≤20) (hb:∀ e∈b,e.stops.length≤20) (i k:Nat):csA a b i k≤21*(a.length+b.length):=by
 have h1:=cst_le (a.drop i) (b.drop k)
 have h2:=csE_bd (l:=a.drop i) fun e he=>ha e (List.mem_of_mem_drop he)
 have h3:=csE_bd (l:=b.drop k) fun e he=>hb e (List.mem_of_mem_drop he)
 rw [List.length_drop] at h2 h3
 unfold csA;omega
theorem csA_end {a b:List Ev}:csA a b a.length b.length=0:=by unfold csA;rw [List.drop_length,List.drop_length];rfl
theorem csA_r {a b:List Ev} {k:Nat} (h:k<b.length):csA a b a.length k=alnE b[k]+csA a b a.length (k+1):=by
 unfold csA;rw [List.drop_length,List.drop_eq_getElem_cons h];rfl
theorem csA_l {a b:List Ev} {i:Nat} (h:i<a.length):csA a b i b.length=alnE a[i]+csA a b (i+1) b.length:=by
 unfold csA;rw [List.drop_length,List.drop_eq_getElem_cons h];rfl
theorem csA_b {a b:List Ev} {i k:Nat} (h:i<a.length) (h2:k<b.length):csA a b i k=min (min (dstE a[i] b[k]+csA a b (i+1) (k+1)) (alnE a[i]+csA a b (i+1) k)) (alnE b[k]+csA a b i (k+1)):=by
 have e:csA a b i k=cst (a[i]::a.drop (i+1)) (b[k]::b.drop (k+1)):=by unfold csA;rw [List.drop_eq_getElem_cons h,List.drop_eq_getElem_cons h2]
 have e1:csA a b (i+1) k=cst (a.drop (i+1)) (b[k]::b.drop (k+1)):=by unfold csA;rw [List.drop_eq_getElem_cons h2]
 have e2:csA a b i (k+1)=csI a[i] (cst (a.drop (i+1))) (b.drop (k+1)):=by unfold csA;rw [List.drop_eq_getElem_cons h];rfl
 rw [e,e1,e2];rfl
def rowA (a b:List Ev)(i:Nat):List Int:=(List.range (b.length+1)).map fun k=>csA a b i k
theorem rowA_len(a b:List Ev)(i:Nat):(rowA a b i).length=b.length+1:=by simp [rowA]
theorem rowA_at {a b:List Ev} {i k:Nat} (h:k≤b.length):(rowA a b i)[k]?=some (csA a b i k):=by
 unfold rowA
 rw [List.getElem?_map,List.getElem?_range (by omega)];rfl
def rowK(a b:List Ev)(i k:Nat):List Int:=List.replicate k 0++(rowA a b i).drop k
theorem rowK_len {a b:List Ev} {i k:Nat} (h:k≤b.length+1):(rowK a b i k).length=b.length+1:=by
 unfold rowK;rw [List.length_append,List.length_replicate,List.length_drop,rowA_len];omega
theorem rowK_top (a b:List Ev)(i:Nat):rowK a b i (b.length+1)=List.replicate (b.length+1) 0:=by
 unfold rowK
 rw [List.drop_eq_nil_of_le (by rw [rowA_len];omega),List.append_nil]
theorem rowK_zero(a b:List Ev)(i:Nat):rowK a b i 0=rowA a b i:=by unfold rowK;simp
theorem rowK_set {a b:List Ev} {i k:Nat} (h:k≤b.length):(rowK a b i (k+1)).set k (csA a b i k)=rowK a b i k:=by
 have hl:k<(rowA a b i).length:=by rw [rowA_len];omega
 unfold rowK
 rw [List.replicate_succ',List.append_assoc,List.set_append_right _ _ (by simp),List.length_replicate,Nat.sub_self]
 rw [List.drop_eq_getElem_cons hl]
 have:(rowA a b i)[k]=csA a b i k:=by
  have:=rowA_at (a:=a) (b:=b) (i:=i) h
  rw [List.getElem?_eq_getElem hl] at this
  exact Option.some.inj this
 rw [this];rfl
theorem rowK_at {a b:List Ev} {i k j:Nat} (h:j≤b.length)(h2:k≤j):(rowK a b i k)[j]?=some (csA a b i j):=by
 unfold rowK
 rw [List.getElem?_append_right (by simpa using h2),List.length_replicate,List.getElem?_drop,show k+(j-k)=j by omega]
 exact rowA_at h
theorem rowK_0 {a b:List Ev} {i k:Nat}:(rowK a b i (k+1))[k]?=some 0:=by
 unfold rowK
 rw [List.getElem?_append_left (by simp),List.getElem?_replicate]
 simp
def dsA(a b:List Ev)(i k:Nat):Int:=match a[i]?,b[k]? with
 | some x,some y=>dstE x y
 | _,_=>0
def alA(a:List Ev)(i:Nat):Int:=match a[i]? with
 | some x=>alnE x
 | none=>0
theorem dsA_at {a b:List Ev} {i k:Nat} (h:i<a.length)(h2:k<b.length):dsA a b i k=dstE a[i] b[k]:=by unfold dsA;rw [List.getElem?_eq_getElem h,List.getElem?_eq_getElem h2]
theorem alA_at {a:List Ev} {i:Nat} (h:i<a.length):alA a i=alnE a[i]:=by unfold alA;rw [List.getElem?_eq_getElem h]
def prs (a b:List Ev):Nat→Nat→Nat→List (Int×Int)
 | 0,_,_=>[]
 | f+1,i,k =>
  if i<a.length∧k<b.length∧csA a b i k=dsA a b i k+csA a b (i+1) (k+1) then ((i:Int),(k:Int))::prs a b f (i+1) (k+1)
  else if i<a.length∧csA a b i k=alA a i+csA a b (i+1) k then ((i:Int),-1)::prs a b f (i+1) k
  else if k<b.length then (-1,(k:Int))::prs a b f i (k+1)
  else []
def prsA (a b:List Ev):List (Int×Int):=prs a b (a.length+b.length) 0 0
theorem prs_end {a b:List Ev}:∀ f,prs a b f a.length b.length=[]
 | 0=>rfl
 | f+1=>by
  unfold prs
  rw [if_neg (fun h=>Nat.lt_irrefl _ h.1),if_neg (fun h=>Nat.lt_irrefl _ h.1),if_neg (Nat.lt_irrefl _)]
theorem prs_b {a b:List Ev} {f i k:Nat} (h:i<a.length) (h2:k<b.length) (h3:csA a b i k=dsA a b i k+csA a b (i+1) (k+1)):prs a b (f+1) i k=((i:Int),(k:Int))::prs a b f (i+1) (k+1):=if_pos ⟨h,h2,h3⟩
theorem prs_l {a b:List Ev} {f i k:Nat} (h:i<a.length) (h3:¬ (k<b.length∧csA a b i k=dsA a b i k+csA a b (i+1) (k+1))) (h4:csA a b i k=alA a i+csA a b (i+1) k):prs a b (f+1) i k=((i:Int),-1)::prs a b f (i+1) k:=by
 show (if _ then _ else if _ then _ else _)=_
 rw [if_neg (fun x=>h3 x.2),if_pos ⟨h,h4⟩]
theorem prs_r {a b:List Ev} {f i k:Nat} (h2:k<b.length) (h3:¬ (i<a.length∧csA a b i k=dsA a b i k+csA a b (i+1) (k+1))) (h4:¬ (i<a.length∧csA a b i k=alA a i+csA a b (i+1) k)):prs a b (f+1) i k=(-1,(k:Int))::prs a b f i (k+1):=by
 show (if _ then _ else if _ then _ else if _ then _ else _)=_
 rw [if_neg (fun x=>h3 ⟨x.1,x.2.2⟩),if_neg h4,if_pos h2]
theorem prs_fuel {a b:List Ev}:∀ {f i k:Nat},i≤a.length→k≤b.length→a.length-i+(b.length-k)≤f→prs a b (f+1) i k=prs a b f i k
 | 0,i,k,hi,hk,h=>by
  obtain rfl:i=a.length:=by omega
  obtain rfl:k=b.length:=by omega
  rw [prs_end,prs_end]
 | f+1,i,k,hi,hk,h=>by
  show (if _ then _ else if _ then _ else if _ then _ else _)=(if _ then _ else if _ then _ else if _ then _ else _)
  by_cases h1:i<a.length∧k<b.length∧csA a b i k=dsA a b i k+csA a b (i+1) (k+1)
  ·rw [if_pos h1,if_pos h1,prs_fuel (by omega) (by omega) (by omega)]
  ·rw [if_neg h1,if_neg h1]
   by_cases h2:i<a.length∧csA a b i k=alA a i+csA a b (i+1) k
   ·rw [if_pos h2,if_pos h2,prs_fuel (by omega) hk (by omega)]
   ·rw [if_neg h2,if_neg h2]
    by_cases h3:k<b.length
    ·rw [if_pos h3,if_pos h3,prs_fuel hi (by omega) (by omega)]
    ·rw [if_neg h3,if_neg h3]
end Go.Proofs.YtgelfflighgajaaGreatDoor
