/- A piece without error: all that is known of its stops. -/
import Derived.Test.YthehkchjdkdbiaaGreatDoorGRKq
import Derived.Test.YthehkchjdkdbiaaGreatDoorK2Kq
set_option linter.unusedVariables false
set_option linter.unusedSimpArgs false
namespace Go.Proofs.YthehkchjdkdbiaaGreatDoor
theorem ak4 {p:Prop}(h:p:=by
 show w.heap.size≤(w.heap++os).size
 rw [Array.size_append];omega):p:=h
theorem aq5 {p:Prop}(h:p:=by
 have:vs=xs:=xW (G:=⟨F,fun _=>0,fun _=>0,fun _=>undef,fun _ _=>False⟩) hs hR.1 fun i av u a b=>.pu _ _ (hR.2 i av u a b)
 subst this
 exact (h w F hB).mono fun e w'⟨he,hb⟩=>⟨v,F,he,hb,fun _ _ h=>h,fun p u x=>by rw [hb.cell (aN (hF p u x))];exact hF p u x,fun _ _ h=>.inl h,hv F⟩):p:=h
theorem qM {p:Prop}(h:p:=by
 exact W.ret (fin2 rfl rfl rfl rfl rfl rfl rfl)):p:=h
theorem kC {p:Prop}(h:p:=by
 exact W.ret (Yt rfl rfl rfl rfl)):p:=h
section
open Go.RowKit
def LU (w:World) (F:View):Prop :=
 (∀ (i:Nat)v,ftL[i]?=some v→F ⟨0,i,none⟩=some (.int .i64 v))∧(∀ (i:Nat)v,bsL[i]?=some v→F ⟨1,i,none⟩=some (.int .i64 v)) ∧
 Lib.TabIs Tryz.prog w "internal/strconv.uint64pow10" .u64 Lib.pow10Tab
def asi:Nat:=5+1
theorem WE:Tryz.prog.globalNamed "internal/strconv.uint64pow10"=some 5:=by kernel_rfl
theorem ajj {w:World} {cs:Array Value} (h:w.var? Tryz.prog "internal/strconv.uint64pow10"=some cs):asi≤w.heap.size:=by
 unfold World.var? at h
 rw [WE]at h
 rcases wW 5 w.heap.size with h1|h1
 ·exact h1
 ·simp [F9 h1]at h
theorem LP:QJ LU asi:=⟨fun w F h=>ajj h.2.2,fun w w' F F' hb hF h=>⟨fun i v x=>hF _ _ (h.1 i v x),fun i v x=>hF _ _ (h.2.1 i v x),by
 have h3:=h.2.2
 unfold Lib.TabIs World.var? at h3 ⊢
 rw [WE]at h3 ⊢
 simp only [Ib]at h3 ⊢
 rw [hb _ (wQ _)];exact h3⟩⟩
theorem aah {z:Int} (h:0≤z∧z≤6):∀ w F,LU w F→F ⟨0,z.toNat,none⟩=some (.int .i64 (ftV z)):=fun w F hB=>hB.1 _ _ (asf h)
theorem Qg {z:Int} (h:0≤z∧z≤6):∀ w F,LU w F→F ⟨1,z.toNat,none⟩=some (.int .i64 (vg z)):=fun w F hB=>hB.2.1 _ _ (aa2 h)
theorem kJ.DY {B:World→View→Prop} {P:Program} {f:FuncId} {args:List AV} {xs:List Value} {res:AV} {v:Value} (hs:EG args=some xs)(hv:∀ F,RP F res v)(h:∀ w F,B w F→Calls P f xs.toArray w (eG v w)):kJ B P f args res:=by
 intro w F vs hB hF hR
 exact aq5
theorem YQ (n:Int)(h:I64 n):kJ LU Tryz.prog 108 [.sc (.int .i64 n)] (.sc (.string (bs (Lib.itoa n)))) :=
 kJ.DY (v:=.string (bs (Lib.itoa n))) rfl (fun _=>.sc _) fun w F hB=>(Tryz.strconv_Itoa n h.1 (by have:=h.2;omega) w hB.2.2).mono fun e w'⟨he,k,os,hw⟩=>⟨he,by
  subst hw
  refine⟨rfl,rfl,rfl,?_,fun i hi=>?_⟩
  ·exact ak4
  ·show (w.heap++os)[i]?=w.heap[i]?
   rw [Es hi]⟩
structure afT(p:aS)(k:Nat)(x:Stp):Prop where
 aT:1≤x.1∧x.1≤p.cs.length
 c14:x.1≤14
 ar8:0≤x.2.1∧x.2.1≤dJ p.cs x.1
 f18:x.2.1≤18
 hold:0≤x.2.2.2.2∧x.2.2.2.2≤ah p.evs k x.1
 h0:0<x.2.2.2.2→x.2.1≠0
theorem ai8 {p:aS} {i:Nat} {last:Int} {s:Stp} (hI:fU p.cs p.st=0)(h:gQ p i s last=0):afT p i s∧last<s.1:=by
 have hb:=Xd hI h
 unfold gQ at h
 by_cases h1:s.1<1∨(p.cs.length:Int)<s.1
 ·rw [if_pos h1]at h;cases h
 ·rw [if_neg h1]at h
  by_cases h2:s.2.1<0∨dJ p.cs s.1<s.2.1
  ·exact Gt
  ·rw [if_neg h2]at h
   by_cases h3:s.1≤last
   ·rw [if_pos h3]at h;cases h
   ·rw [if_neg h3]at h
    by_cases h4:(s.2.2.1<0∨3<s.2.2.1)∨(s.2.2.2.1<0∨4<s.2.2.2.1)
    ·rw [if_pos h4]at h;cases h
    ·rw [if_neg h4]at h
     by_cases h5:(s.2.2.2.2<0∨(ah p.evs i s.1:Int)<s.2.2.2.2)∨(0<s.2.2.2.2∧s.2.1=0)
     ·rw [if_pos h5]at h;cases h
     ·exact⟨⟨by omega,by omega,by omega,by omega,by omega,by omega⟩,by omega⟩
theorem afv {p:aS} {i:Nat} (hI:fU p.cs p.st=0):∀ {l:List Stp} {last:Int},gK p i last l=0→(∀ x∈l,afT p i x∧last<x.1)∧l.Pairwise fun x y=>x.1<y.1:=by
 intro l
 induction l with
 | nil=>intro _ _;exact⟨fun x hx=>(by cases hx),.nil⟩
 | cons x r ih =>
  intro last h
  unfold gK at h
  by_cases h1:gQ p i x last≠0
  ·exact aaM
  ·rw [if_neg h1] at h
   have hx:=ai8 hI (by simpa using h1:gQ p i x last=0)
   obtain⟨q1,q2⟩:=ih h
   refine⟨fun y hy=>?_,.cons (fun y hy=>(q1 y hy).2) q2⟩
   rcases List.mem_cons.1 hy with rfl|hy
   ·exact hx
   ·exact⟨(q1 y hy).1,by have:=(q1 y hy).2;omega⟩
structure auL(p:aS)(k:Nat)(e:Ev):Prop where
 sg:gZ e.val e.dot e.three=true
 first:¬ ((k:Int)=0∧e.val=0)
 tie:e.tie=true→e.stops=[]∧0<k
 stops:∀ x∈e.stops,afT p k x
 EK:e.stops.Pairwise fun x y=>x.1<y.1
theorem ji {p:aS} (h:aV p=0) {k:Nat} (hk:k<p.evs.length):auL p k p.evs[k]:=by
 obtain ⟨h1,h2,h3⟩:=dY h
 obtain ⟨a,b,c,d⟩:=qp (h3 k hk)
 obtain ⟨q1,q2⟩:=afv h1 d
 refine ⟨a,b,fun ht=>?_,fun x hx=>(q1 x hx).1,q2⟩
 have:¬ (0<p.evs[k].stops.length∨(k:Int)=0):=fun hh=>c ⟨ht,hh⟩
 exact ⟨oN au,by omega⟩
end
end Go.Proofs.YthehkchjdkdbiaaGreatDoor
