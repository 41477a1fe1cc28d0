/- Restores, plain: a list of events with the variants of another one is this other one. -/
import Derived.Test.YtgelfflighgajaaGreatDoorPnVq
import Derived.Test.YtgelfflighgajaaGreatDoorSmIVq
set_option maxHeartbeats 8000000
set_option maxRecDepth 100000
set_option linter.unusedVariables false
set_option linter.unusedSimpArgs false
namespace Go.Proofs.YtgelfflighgajaaGreatDoor
open Go.RowKit
def ev0:Ev:=⟨false,0,false,false,false,[]⟩
def evG(l:List Ev)(z:Int):Ev:=l.getD z.toNat ev0
end Go.Proofs.YtgelfflighgajaaGreatDoor
namespace Go.Proofs.YtgelfflighgajaaGreatDoor
open Go.RowKit
inductive Aln (a b:List Ev):Nat→Nat→List (Int×Int)→Prop
 | nil:Aln a b a.length b.length []
 | both (i k:Nat) (P:List (Int×Int)):i<a.length→k<b.length→Aln a b (i+1) (k+1) P→Aln a b i k (((i:Int),(k:Int))::P)
 | left (i k:Nat) (P:List (Int×Int)):i<a.length→Aln a b (i+1) k P→Aln a b i k (((i:Int),-1)::P)
 | right (i k:Nat) (P:List (Int×Int)):k<b.length→Aln a b i (k+1) P→Aln a b i k ((-1,(k:Int))::P)
theorem prs_aln {a b:List Ev}:∀ (f i k:Nat),i≤a.length→k≤b.length→a.length-i+(b.length-k)≤f→Aln a b i k (prs a b f i k)
 | 0,i,k,hi,hk,h=>by
  obtain rfl:i=a.length:=by omega
  obtain rfl:k=b.length:=by omega
  exact .nil
 | f+1,i,k,hi,hk,h=>by
  unfold prs
  by_cases h1:i<a.length∧k<b.length∧csA a b i k=dsA a b i k+csA a b (i+1) (k+1)
  ·rw [if_pos h1]
   exact .both i k _ h1.1 h1.2.1 (prs_aln f (i+1) (k+1) (by omega) (by omega) (by omega))
  ·rw [if_neg h1]
   by_cases h2:i<a.length∧csA a b i k=alA a i+csA a b (i+1) k
   ·rw [if_pos h2]
    exact .left i k _ h2.1 (prs_aln f (i+1) k (by omega) hk (by omega))
   ·rw [if_neg h2]
    by_cases h3:k<b.length
    ·rw [if_pos h3]
     exact .right i k _ h3 (prs_aln f i (k+1) hi (by omega) (by omega))
    ·rw [if_neg h3]
     obtain rfl:k=b.length:=by omega
     have hi2:i=a.length:=by
      by_cases h4:i<a.length
      ·exact absurd ⟨h4,by rw [alA_at h4];exact csA_l h4⟩ h2
      ·omega
     rw [hi2];exact .nil
theorem aln_le {a b:List Ev} {i k:Nat} {P:List (Int×Int)} (h:Aln a b i k P):i≤a.length∧k≤b.length:=by
 induction h with
 | nil=>exact⟨Nat.le_refl _,Nat.le_refl _⟩
 | both i k P h1 h2 _ _=>omega
 | left i k P h1 _ ih=>omega
 | right i k P h1 _ ih=>omega
theorem evG_get {l:List Ev} {k:Nat} (h:k<l.length):evG l (k:Int)=l[k]:=by
 unfold evG
 rw [Int.toNat_natCast,List.getD_eq_getElem?_getD,List.getElem?_eq_getElem h];rfl
end Go.Proofs.YtgelfflighgajaaGreatDoor
