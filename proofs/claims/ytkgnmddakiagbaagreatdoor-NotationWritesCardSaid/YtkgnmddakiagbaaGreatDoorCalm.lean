/- A region that draws its order, whose calls make memory and leave all that was there: one walk of the lexical order. -/
import Derived.Test.YtkgnmddakiagbaaGreatDoorApp2
import Derived.BigQuiet
import Derived.Deep.QuietTactic
namespace Go.Proofs.YtkgnmddakiagbaaGreatDoor
open Go.RowKit
set_option linter.unusedVariables false
/-- The class: what was there at W is there. -/
def Calm (W w : World) : Prop := Below W.heap.size W w
theorem wp_region_calm {P : Program} {id : Nat} {Q : Exit → Act → World → Prop} {a : Act} {w : World} {l : List Oper} (W : World) (hm : P.follows .mixedOrders = true) (hB : Region.lexB .any l.toArray = true) (hW : Below W.heap.size W w)
    (h : wpQuiet P l.toArray (Calm W) (fun a' => ∀ w', Calm W w' → Q .normal a' w') l a) : (Code.region id l.toArray true).wp P Q a w :=
  wp_region_quiet (C := Calm W) hm hB (show Below W.heap.size W _ from ⟨hW.os, hW.tape, hW.output, hW.size, hW.block⟩) (by simpa using h)
theorem calm_val {P : Program} {W : World} {o : Oper} {a : Act} {K : Act → Prop} {v : Value} (h : ∀ w', Calm W w' → (execOp a.eval o).run P w' = .ok (.value v) w') (hk : K (a.put o.dst v)) : o.quiet P a (Calm W) K := by
  refine ⟨v, fun w' hw' => ?_, hk⟩
  unfold Oper.quietAt
  rw [h w' hw']
  exact ⟨rfl, rfl⟩
theorem calm_enter {P : Program} {W : World} {o : Oper} {a : Act} {K : Act → Prop} {v : Value} {f : FuncId} {args : Array Value} (h : ∀ w', Calm W w' → (execOp a.eval o).run P w' = .ok (.enter f args) w') (hc : ∀ w', Calm W w' → Calls P f args w' (Ret v w')) (hk : K (a.put o.dst v)) :
    o.quiet P a (Calm W) K := by
  refine ⟨v, fun w' hw' => ?_, hk⟩
  unfold Oper.quietAt
  rw [h w' hw']
  exact ⟨rfl, (hc w' hw').mono fun e w'' ⟨he, hb⟩ => ⟨he, show Below W.heap.size W w'' from Below.trans hw' (hb.mono (Below.size hw'))⟩⟩
theorem calm_cell {W w' : World} (h : Calm W w') : (∀ b o, b < W.heap.size → w'.cell? ⟨b, o, none⟩ = W.cell? ⟨b, o, none⟩) ∧ (∀ p : Addr, p.block < W.heap.size → w'.cell? p = W.cell? p) :=
  ⟨fun b o h' => Below.cell (p := ⟨b, o, none⟩) h h', fun p h' => Below.cell (p := p) h h'⟩
end Go.Proofs.YtkgnmddakiagbaaGreatDoor
