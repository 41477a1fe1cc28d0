/- The error of a piece: its parts. -/
import Derived.Test.YtkgnmddakiagbaaGreatDoorChP
namespace Go.Proofs.YtkgnmddakiagbaaGreatDoor
open Go.RowKit
theorem pceE_ins {p : Pce} (h : insE p.cs p.st ≠ 0) : pceE p = insE p.cs p.st := if_pos h
theorem pceE_many {p : Pce} (h : ¬ insE p.cs p.st ≠ 0) (h1 : 400 < p.evs.length) : pceE p = 2 := by unfold pceE; rw [if_neg h, if_pos h1]
theorem pceE_evs {p : Pce} (h : ¬ insE p.cs p.st ≠ 0) (h1 : ¬ 400 < p.evs.length) : pceE p = evsE p 0 p.evs := by unfold pceE; rw [if_neg h, if_neg h1]
end Go.Proofs.YtkgnmddakiagbaaGreatDoor
