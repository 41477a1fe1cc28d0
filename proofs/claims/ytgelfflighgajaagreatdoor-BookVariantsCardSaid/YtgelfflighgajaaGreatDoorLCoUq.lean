/- The law BookCollates. -/
import Derived.Test.YtgelfflighgajaaGreatDoorRClUq
set_option maxHeartbeats 8000000
set_option maxRecDepth 100000
set_option linter.unusedVariables false
set_option linter.unusedSimpArgs false
namespace Go.Proofs.YtgelfflighgajaaGreatDoor
open Go.RowKit
theorem prs_len {a b:List Ev}:∀ (f i k:Nat),(prs a b f i k).length≤f
 | 0,i,k=>by simp [prs]
 | f+1,i,k=>by
  have h1:=prs_len (a:=a) (b:=b) f (i+1) (k+1)
  have h2:=prs_len (a:=a) (b:=b) f (i+1) k
  have h3:=prs_len (a:=a) (b:=b) f i (k+1)
  unfold prs
  split
  ·simp only [List.length_cons];omega
  ·split
   ·simp only [List.length_cons];omega
   ·split
    ·simp only [List.length_cons];omega
    ·simp
theorem long60' {p:Pce} (h:longB p=false):p.evs.length≤60:=by
 unfold longB at h
 simp only [Bool.or_eq_false_iff,decide_eq_false_iff_not]at h
 omega
end Go.Proofs.YtgelfflighgajaaGreatDoor
