/- The reference: Sound, the melody of a piece, how it begins; lists of numbers that are equal. -/
import Derived.Test.YtkgnmddakiagbaaGreatDoorEdPZq
import Derived.Test.YtkgnmddakiagbaaGreatDoorProg
import Derived.BigQuiet
import Derived.Deep.QuietTactic
import Derived.WalkKit
import Derived.Handy
import Derived.WalkLawsBesides
import Derived.Deep.RegionHeld3
import Derived.Shelf.Strings.Builder1
import Derived.Shelf.Strings.Builder2
import Derived.Shelf.Small.Strs
import Derived.Shelf.Strings.BuilderF
import Derived.Shelf.Strings.BuilderK
import Derived.Shelf.Strings.Builder2Cap
import Derived.Shelf.Strconv.Itoa0
import Derived.Shelf.Strconv.Itoa1
import Derived.Shelf.LaysM
import Derived.Shelf.Strconv.Itoa2
import Derived.Shelf.Strconv.Itoa3
import Derived.Shelf.Strings.Search1
import Derived.Shelf.Strings.Search2
import Derived.Shelf.Strings.Search3
import Derived.Shelf.Strings.Cut
import Derived.Shelf.Strings.Count
import Derived.Shelf.Strings.Shaped
import Derived.Shelf.Strings.Prefix
import Derived.Shelf.Bits.Mul64
import Derived.Shelf.Strings.Repeat
import Derived.Shelf.Unicode.DecodeSlow
import Derived.Shelf.Strings.BuilderCap
import Derived.Lib.Hide
import Derived.Deep.Draws
import Derived.OwnWalk
import Derived.Maps.AppendAt
import Derived.Deep.AppendLies
import Derived.Laws.OwnMore
import Derived.Deep.MidRow
import Derived.Still
import Derived.Lib.FrozenHead
import Derived.Lib.ItoaNum
import Derived.Laws.StructEq
import Derived.Deep.RegionWith
import Derived.Deep.DeepCutAuto
import Derived.Shelf.Strings.OnBuilder
import Derived.RangeFuncNested
import Derived.RangeFuncBound
import Derived.RangeFuncCalls
import Derived.RangeFuncLeaves
import Derived.RangeFuncBox
import Derived.Shelf.Abstract
import Derived.Shelf.RegionOpen
import Derived.OwnWalkIn
import Derived.TacticsInMore
import Derived.LoopNIn
import Derived.LoopIn
import Derived.WideKeyRuns
import Derived.DeepKeys3
import Derived.Test.YtkgnmddakiagbaaGreatDoorEdAZq
import Derived.Test.YtkgnmddakiagbaaGreatDoorEHZq
set_option linter.unusedVariables false
set_option linter.unusedSimpArgs false
namespace Go.Proofs.YtkgnmddakiagbaaGreatDoor
open Go.RowKit
set_option maxRecDepth 100000
set_option maxHeartbeats 8000000
theorem bldS0 (w : World) (b : Nat) (p : Value) (hbk : w.heap[b]? = some (.cells #[p, .slice none 0 0] 95 (0, 0))) :
    Calls Tryz.prog 50 #[.pointer (some ⟨b, 0, none⟩)] w fun e w' => e = .returned (.string (bs [])) ∧ w' = w.drew := by
  have c1 : w.drew.cell? ⟨b, 1, none⟩ = some (.slice none 0 0) := by
    have : w.drew.heap[b]? = some (.cells #[p, .slice none 0 0] 95 (0, 0)) := hbk
    rw [Lib.cell_of_heap this]; rfl
  have hUS : (Builtin.unsafeString_ #[203, 3] 9 #[.pointer none, .int .i64 0]).run Tryz.prog w.drew = .ok (.string .empty) w.drew := Lib.run_unsafeString_none _ _ _ _ _
  have hSD : (Builtin.unsafeSliceData_ #[93] 203 #[.slice none 0 0]).run Tryz.prog w.drew = .ok (.pointer none) w.drew := Lib.run_unsafeSliceData_nil _ _ _ _ _
  have mixed : Tryz.prog.follows .mixedOrders = true := by kernel_rfl
  go_enter Tryz.func50, Tryz.ntmps50
  go_wp2
  go_region_o
  all_goals (go_wp2; go_ret; exact ⟨rfl, rfl⟩)
theorem WV.box2 {P : Program} {C : Cx} {o : Oper} {σ : St} {f : FuncId} {k : Nat} {x : Operand} {ts : Array TypeId} {T : TypeId} {c1 c2 v : Value} (ho : o.op = .call { callee := .value (.func f), args := #[x], argTypes := ts }) (hc : ∀ vs w, (callFunc f vs).run P w = .ok (.enter f vs) w)
    (hx : σ.ev x = some (.pt k 0 0)) (hk : look k σ.M = some (.box T [.sc c1, .sc c2])) (h : ∀ w b, w.heap[b]? = some (.cells #[c1, c2] T (0, 0)) → Calls P f #[.pointer (some ⟨b, 0, none⟩)] w fun e w' => e = .returned v ∧ w' = w.drew) : WV P C o σ (.sc v) := by
  intro G a w ok N Q' hN
  obtain ⟨p, ep, p1, p2, p3⟩ := (ok.evr hx).2.pt_of
  obtain ⟨h1, cs, Φ, hB, hsz, _, _, hcs⟩ := (ok.ob k _ hk).2.2
  obtain rfl := addr_eq p1 p2 p3
  rw [Nat.zero_mul] at ep
  have hsz : cs.size = 2 := hsz
  have g : ∀ i (h : i < 2), cs[i]? = some (cs[i]'(by omega)) := fun i h => Array.getElem?_eq_getElem (by omega)
  have e1 := (CR.r (hcs 0 _ _ rfl (g 0 (by omega))) rfl).sc_eq
  have e2 := (CR.r (hcs 1 _ _ rfl (g 1 (by omega))) rfl).sc_eq
  have ecs : cs = #[c1, c2] := by
    apply Array.ext (by simp [hsz])
    intro i hi hi2
    match i, (show i < 2 by omega) with
    | 0, _ => exact e1
    | 1, _ => exact e2
  subst ecs
  unfold Oper.wp execOp
  have ev : a.eval (.func f) = .func (.func f) #[] #[] := rfl
  have e3 : (#[] ++ (#[x] : Array Operand).map a.eval ++ #[] : Array Value) = #[.pointer (some ⟨G.b k, 0, none⟩)] := by simp [ep]
  simp only [ho, resolve, ev, Deferred.ofValue, invoke, Sem.run_bind, Sem.run_pure, Result.andThen_ok, hc, Oper.upon, e3]
  refine (h w (G.b k) hB).mono fun e w1 ⟨he, hw⟩ => ?_
  subst he hw
  exact hN _ G _ (fun σ'' a'' ok'' => ok''.drew) (.pu _ _ (.sc _)) (.sc _)
end Go.Proofs.YtkgnmddakiagbaaGreatDoor
namespace Go.Proofs.YtkgnmddakiagbaaGreatDoor
open Go.RowKit
set_option maxHeartbeats 8000000
set_option maxRecDepth 100000
theorem sameInts_FS (l m : List Int) (h1 : l.length ≤ 100000) (h2 : m.length ≤ 100000) : Ctr Tryz.prog 19 [.ls 1 (l.map eInt), .ls 1 (m.map eInt)] (.sc (.bool (decide (l = m)))) := by
  by_cases hl : l.length = m.length
  rotate_left
  · rw [decide_eq_false fun e => hl (by rw [e])]
    refine Ctr.intro Tryz.func19 rfl Tryz.ntmps19 (Nat.le_of_ble_eq_true rfl) (bd_all rfl) fun w0 F0 => ?_; dsimp only [St.init, number, Nat.reduceAdd]
    repeat (first | refine W.gob rfl ?_ | refine WL.nil ?_ | refine WL.nt rfl rfl rfl (by omega) ?_ | refine WL.e1 rfl ?_ | refine WL.len rfl rfl (by first | exact List.length_map _ | exact List.length_replicate | rfl) ?_ | refine W.condT rfl ?_)
    refine (?_ : W _ _ _ _ _)
    dsimp only [St.put, Nat.reduceAdd]
    exact W.ret (fin1 rfl rfl rfl rfl)
  refine Ctr.intro Tryz.func19 rfl Tryz.ntmps19 (Nat.le_of_ble_eq_true rfl) (bd_all rfl) fun w0 F0 => ?_; dsimp only [St.init, number, Nat.reduceAdd]
  repeat (first | refine W.gob rfl ?_ | refine WL.nil ?_ | refine WL.nf rfl rfl rfl (by omega) ?_ | refine WL.e1 rfl ?_ | refine WL.len rfl rfl (by first | exact List.length_map _ | exact List.length_replicate | rfl) ?_ | refine W.condF rfl ?_)
  refine (?_ : W _ _ _ _ _)
  dsimp only [St.put, Nat.reduceAdd]
  refine W.loop (fun k : Nat => k ≤ l.length ∧ ∀ i (hi : i < k) (h1 : i < l.length) (h2 : i < m.length), l[i] = m[i]) (fun k => ⟨[(0, .ls 1 (l.map eInt)), (1, .ls 1 (m.map eInt)), (5, .sc (.int .i64 k))], [], 0⟩) (fun k => l.length - k) 0 ⟨by omega, fun i hi => by omega⟩ (Tr.ren id (by repeat (first | exact trivial | refine ⟨⟨?_, ?_⟩, ?_⟩ | rfl)) (by repeat (first | exact trivial | refine ⟨⟨?_, ?_, ?_⟩, ?_⟩ | rfl)) rfl) fun k hk => ?_
  obtain ⟨hk, hsame⟩ := hk
  by_cases hlt : k < l.length
  · have hlt2 : k < m.length := by omega
    by_cases he : l[k] = m[k]
    · have hd : decide (l[k] = m[k]) = true := decide_eq_true he
      repeat (first | refine W.gob rfl ?_ | refine WL.nil ?_ | refine WL.bt rfl rfl rfl (by omega) ?_ | refine WL.e1 rfl ?_ | refine WL.len rfl rfl (by first | exact List.length_map _ | exact List.length_replicate | rfl) ?_ | refine W.condT rfl ?_)
      refine (?_ : W _ _ _ _ _)
      dsimp only [St.put, Nat.reduceAdd]
      refine W.drawK (by kernel_rfl) (by kernel_rfl) ?_
      repeat (first | refine DK.st rfl ?_ | refine DK.idx rfl rfl (by omega) (by first | exact map_at (by omega) | exact map_atZ (by omega) (by omega)) ?_ | refine DK.nil ?_)
      rw [hd]
      repeat (first | refine W.gob rfl ?_ | refine WL.nil ?_ | refine WL.e1 rfl ?_ | refine WL.ar rfl rfl (by unfold I64; omega) ?_ | refine W.condF rfl ?_)
      dsimp only [St.put, Nat.reduceAdd]
      refine ⟨k + 1, ⟨by omega, fun i hi a b => ?_⟩, by omega, (Tr.ren id (by repeat (first | exact trivial | refine ⟨⟨?_, ?_⟩, ?_⟩ | rfl)) (by repeat (first | exact trivial | refine ⟨⟨?_, ?_, ?_⟩, ?_⟩ | rfl)) rfl)⟩
      by_cases e : i = k
      · subst e; exact he
      · exact hsame i (by omega) a b
    · have hd : decide (l[k] = m[k]) = false := decide_eq_false he
      rw [decide_eq_false fun e => he (by subst e; rfl)]
      repeat (first | refine W.gob rfl ?_ | refine WL.nil ?_ | refine WL.bt rfl rfl rfl (by omega) ?_ | refine WL.e1 rfl ?_ | refine WL.len rfl rfl (by first | exact List.length_map _ | exact List.length_replicate | rfl) ?_ | refine W.condT rfl ?_)
      refine (?_ : W _ _ _ _ _)
      dsimp only [St.put, Nat.reduceAdd]
      refine W.drawK (by kernel_rfl) (by kernel_rfl) ?_
      repeat (first | refine DK.st rfl ?_ | refine DK.idx rfl rfl (by omega) (by first | exact map_at (by omega) | exact map_atZ (by omega) (by omega)) ?_ | refine DK.nil ?_)
      rw [hd]
      repeat (first | refine W.gob rfl ?_ | refine WL.nil ?_ | refine WL.e1 rfl ?_ | refine W.condT rfl ?_)
      refine (?_ : W _ _ _ _ _)
      dsimp only [St.put, Nat.reduceAdd]
      exact W.ret (fin1 rfl rfl rfl rfl)
  · have e : l = m := List.ext_getElem hl fun i a b => hsame i (by omega) a b
    rw [decide_eq_true e]
    repeat (first | refine W.gob rfl ?_ | refine WL.nil ?_ | refine WL.bf rfl rfl rfl (by omega) ?_ | refine WL.e1 rfl ?_ | refine WL.len rfl rfl (by first | exact List.length_map _ | exact List.length_replicate | rfl) ?_ | refine W.condF rfl ?_)
    refine (?_ : W _ _ _ _ _)
    dsimp only [St.put, Nat.reduceAdd]
    exact W.ret (fin1 rfl rfl rfl rfl)
end Go.Proofs.YtkgnmddakiagbaaGreatDoor
