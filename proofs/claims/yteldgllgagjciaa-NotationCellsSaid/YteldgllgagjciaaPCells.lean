/- THE STATEMENT NotationCells: for every input the call returns true, and each argument reads afterwards as it read before. No condition. -/
import Derived.Test.YteldgllgagjciaaRows
import Derived.ProofKit
import Derived.OpenShut
import Derived.ChangeMaps5
import Derived.Lib.SmallJoins
import Derived.Test.YteldgllgagjciaaFr
import Derived.Test.YteldgllgagjciaaOp
import Derived.Test.YteldgllgagjciaaLCells
namespace Go.Proofs.Yteldgllgagjciaa.notationCells
open Go.ChangeShapes Go.WideShapes Go.ChangeAt Go.RowKit Go.Joins
set_option maxRecDepth 100000
set_option linter.unusedVariables false
set_option linter.unusedSimpArgs false
theorem cellsStop : Try.prog.cellsOf 40 = 5 := by kernel_rfl
theorem own : ownKnob Try.prog.godebug = none := by kernel_rfl
theorem lifted (os : Os) (started : os.Started) (H : Type) (enc : TypeId × Value → H) :
    ReturnsInHanded {} Try.checked os 7 .any (Rows.notationCellsSpec.pre6 enc Try.prog Try.f7 Rows.notationCellsRow.domain false) (Rows.notationCellsSpec.post enc Try.prog Try.f7 false true false false) := by
  refine returnsInHanded_of_change (C := Try.checked) own started (by kernel_rfl) Try.func7
    (ChangeSpec.witness6 (enc := enc) (C := Try.checked) false ⟨#[], #[.int .u8 0, .agg #[.int .i64 0, .int .i64 0, .int .i64 0, .int .i64 0, .int .i64 0], .int .i64 0], []⟩ 8 (by kernel_rfl) (by kernel_rfl) (by kernel_rfl) (by kernel_rfl)) ?_
  intro W base args ds gs before hval0 hW hcnd _
  have hval : ∀ (j : Nat) t v, Try.f7.params[j]? = some t → args[j]? = some v → Value.okWide Try.prog W .any base t v := hval0
  have hW' := hW
  obtain ⟨p, q, hA0, hV, rfl, hfz, hnd⟩ := hW
  have hA : DataW.TrodAll enc Try.prog W 0 (fun _ => true) true Try.f7.params.toList args.toList ds p := hA0
  have hAk := hA
  rw [Try.params7] at hA hval
  obtain ⟨v0, vs0, d0, ds0, p0, q0, hargs, rfl, rfl, h0, r0⟩ := trodAll_cons hA
  obtain ⟨v1, vs1, d1, ds1, p1, q1, rfl, rfl, rfl, h1, r1⟩ := trodAll_cons r0
  obtain ⟨v2, vs2, d2, ds2, p2, q2, rfl, rfl, rfl, h2, r2⟩ := trodAll_cons r1
  obtain ⟨rfl, rfl, rfl⟩ := trodAll_nil r2
  obtain rfl : args = #[v0, v1, v2] := by cases args; simp_all
  obtain ⟨rfl, rfl⟩ := trodVars_none hV
  obtain ⟨a0, rfl, hd0, hp0, w0⟩ := open_int Try.underlying22 (hval 0 22 v0 rfl rfl) h0
  obtain ⟨c10, c11, c12, c13, c14, y10, y11, y12, y13, y14, m1, rfl, hd1, hp1, hy10, hy11, hy12, hy13, hy14⟩ := open_agg5 Try.underlying40 (by kernel_rfl) cellsStop (hval 1 40 v1 rfl rfl) h1
  obtain ⟨a10, e10, z10, w10⟩ := DataW.trod_int Try.underlying3 hy10
  obtain ⟨a11, e11, z11, w11⟩ := DataW.trod_int Try.underlying3 hy11
  obtain ⟨a12, e12, z12, w12⟩ := DataW.trod_int Try.underlying3 hy12
  obtain ⟨a13, e13, z13, w13⟩ := DataW.trod_int Try.underlying3 hy13
  obtain ⟨a14, e14, z14, w14⟩ := DataW.trod_int Try.underlying3 hy14
  simp only [List.cons.injEq, and_true] at e10 e11 e12 e13 e14
  subst e10 e11 e12 e13 e14
  obtain ⟨a2, rfl, hd2, hp2, w2⟩ := open_int Try.underlying3 (hval 2 3 v2 rfl rfl) h2
  clear hA0 hval0
  simp only [List.append_nil] at hW' hAk
  refine (cells_walk a0 a10 a11 a12 a13 a14 a2 W).mono fun e W' ⟨he, hg⟩ => ?_
  subst he
  exact ⟨_, rfl, post_of_below (pv := []) hW' (fun _ _ _ => (trodAll_cons_mk (shut_bool Try.underlying4 _) trodAll_mk0)) (fun sp hsp => args_keep typesKids slicesFull (by rw [Try.params7]; decide) hAk hg (fun x hx => hW'.lt x (by simpa using hx)) (fun x hx => hsp x (by simpa using hx))) (fun _ _ => rfl) (by simp)
    hg (ok_one (by kernel_rfl) rfl (okWide_bool_mk Try.underlying4 _))⟩

theorem over : Rows.notationCellsRow.holds Try.pinned (OpenSpec.ofChange Rows.notationCellsSpec) :=
  OpenClaim.holds_of_wide 7 Try.f7 rfl rfl rfl rfl rfl rfl rfl ⟨rfl, rfl, rfl, rfl, rfl⟩ rfl rfl rfl rfl rfl (by kernel_rfl) Try.func7 (by kernel_rfl)
    (of_decide_eq_true (by kernel_rfl)) (by unfold Func.isWrapper; first | (rw [if_pos (by decide +kernel)]; kernel_rfl) | (rw [if_neg (by decide +kernel)]; exact ⟨rfl, rfl⟩))
    (fun os started H enc _ => lifted os started H enc)

theorem proved : Rows.NotationCellsSaid :=
  over
#print axioms proved
end Go.Proofs.Yteldgllgagjciaa.notationCells
