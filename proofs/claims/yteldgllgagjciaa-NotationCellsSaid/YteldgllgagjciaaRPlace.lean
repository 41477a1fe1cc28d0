/- Place of the reference. -/
import Derived.Test.YteldgllgagjciaaRPl
namespace Go.Proofs.Yteldgllgagjciaa
open Go.RowKit
set_option maxHeartbeats 1600000
set_option maxRecDepth 100000
set_option linter.unusedVariables false
set_option linter.unusedSimpArgs false
attribute [local go_sem] mk_bs bs_size bs_toList bs_append bs_extract
attribute [local simp] run_cut run_cut_to run_cut_from run_add_bs

theorem plM_cases (s crs : Int) (l : List UInt8) (c f : Nat) : (plM s crs l c f = true ∧ standsB s crs c = true ∧ (l == []) = false ∧ l.isEmpty = false ∧ (rS s c f == l) = true) ∨
    (plM s crs l c f = false ∧ ((l = []) ∨ ((l == []) = false ∧ l.isEmpty = false ∧ standsB s crs c = false) ∨ ((l == []) = false ∧ l.isEmpty = false ∧ standsB s crs c = true ∧ (rS s c f == l) = false))) := by
  unfold plM
  by_cases hl : l = []
  · subst hl
    refine .inr ⟨?_, .inl rfl⟩
    cases h : rS s c f <;> simp
  · have hl1 : (l == []) = false := by simpa using hl
    have hl2 : l.isEmpty = false := by simpa using hl
    cases hst : standsB s crs c with
    | false => exact .inr ⟨by simp, .inr (.inl ⟨hl1, hl2, rfl⟩)⟩
    | true =>
      cases he : (rS s c f == l) with
      | false => exact .inr ⟨by simp, .inr (.inr ⟨hl1, hl2, rfl, rfl⟩)⟩
      | true =>
        refine .inl ⟨?_, rfl, hl1, hl2, rfl⟩
        have : rS s c f = l := by simpa using he
        rw [this, hl2]; rfl

theorem rplace_ok (s crs : Int) (l : List UInt8) (w : World) (hs : 1 ≤ s ∧ s ≤ 4) (h : spotErr s crs = 0) :
    Calls Try.prog 16 #[.int .u8 s, .int .i64 crs, .string (bs l)] w (Ret (placeV s crs l) w) := by
  have HE := Lib.hid h
  have HS4 := Lib.hid hs
  have h0 := h
  clear h hs
  go_enter Try.func16, Try.ntmps16
  go_wp2_with (go_at_call 41; refine (rspot_any _ _ _).mono ?_; rintro e w' ⟨rfl, hw⟩; rw [hw]; clear hw)
  clear h0
  go_loopw [9] (fun v wr => ∃ c : Nat, 1 ≤ c ∧ c ≤ 15 ∧ v = .int .i64 c ∧ scanC (plM s crs l) 1 14 = scanC (plM s crs l) c (15 - c) ∧ Below w.heap.size w wr ∧ Blk wr w.heap.size 24 #[.int .i64 0, .int .i64 0])
    (fun v _ => 15 - (intOf v).toNat)
  case atStart => exact ⟨1, by omega, by omega, rfl, rfl, (by repeat (first | exact Below.refl _ _ | assumption | refine bel_drewN ?_ _ | refine Below.drew ?_ | refine bel_alloc ?_ _ | refine Below.setCell ?_ (by first | omega | (simp; done) | (simp; omega)) _ | refine bel_step ?_ (by assumption))), Blk.new _ _ _⟩
  case round =>
    obtain ⟨c, hc1, hc15, rfl, hsc, hbel, hblk⟩ := hrel
    have HS := Lib.hid hsc
    have HB := Lib.hid hblk
    have hlt : w.heap.size < wr.heap.size := hblk.lt
    have q0 : wr.cell? ⟨w.heap.size, 0, none⟩ = some (.int .i64 0) := hblk.cell 0
    have q1 : wr.cell? ⟨w.heap.size, 1, none⟩ = some (.int .i64 0) := hblk.cell 1
    have q2 := hblk.frozen 0
    have q3 := hblk.frozen 1
    clear hsc hblk
    by_cases hle : c ≤ 14
    · clear q0 q1 q2 q3
      obtain ⟨wo, hwo⟩ : ∃ wo : World, wo = wr := ⟨_, rfl⟩
      subst hwo
      have hci : 1 ≤ (c : Int) ∧ (c : Int) ≤ 14 := by omega
      go_wp2_with fail
      go_loopw [10] (fun v wi => ∃ f : Nat, f ≤ 19 ∧ v = .int .i64 f ∧ scanF (plM s crs l c) 0 19 = scanF (plM s crs l c) f (19 - f) ∧ Below w.heap.size w wi ∧ Blk wi w.heap.size 24 #[.int .i64 0, .int .i64 0])
        (fun v _ => 19 - (intOf v).toNat)
      case atStart => exact ⟨0, by omega, rfl, rfl, hbel, HB.out⟩
      case round =>
        obtain ⟨f, hf19, rfl, hsf, hbel2, hblk2⟩ := hrel
        have HF := Lib.hid hsf
        have HB2 := Lib.hid hblk2
        have hlt2 : w.heap.size < wr.heap.size := hblk2.lt
        have q0 : wr.cell? ⟨w.heap.size, 0, none⟩ = some (.int .i64 0) := hblk2.cell 0
        have q1 : wr.cell? ⟨w.heap.size, 1, none⟩ = some (.int .i64 0) := hblk2.cell 1
        have q2 := hblk2.frozen 0
        have q3 := hblk2.frozen 1
        clear hsf hblk2
        by_cases hle2 : f ≤ 18
        · have hfi : 0 ≤ (f : Int) ∧ (f : Int) ≤ 18 := by omega
          rcases plM_cases s crs l c f with ⟨hm, hst, hl1, hl2, heq⟩ | ⟨hm, hno⟩
          · have HR := Lib.hid (placeOf_some HE.out (show scanC (plM s crs l) 1 14 = some (c, f) from by
              rw [HS.out, show 15 - c = (14 - c) + 1 from by omega]
              exact scanC_yes _ _ _ _ (by rw [HF.out, show 19 - f = (18 - f) + 1 from by omega, scanF_yes _ _ _ hm])))
            clear hm
            go_wp2_with (first | (go_at_call 42; refine (rstands_any _ _ _ _).mono ?_; rintro e w' ⟨rfl, hw⟩; rw [hw]; clear hw) | (go_at_call 38; refine (rsymbol_any _ _ _ _ HS4.out hci hfi).mono ?_; rintro e w2 ⟨rfl, hb⟩; have k1 := HB2.out.after hb; have r0 : w2.cell? ⟨w.heap.size, 0, none⟩ = some (.int .i64 0) := k1.cell 0; have r1 : w2.cell? ⟨w.heap.size, 1, none⟩ = some (.int .i64 0) := k1.cell 1; have r2 := k1.frozen 0; have r3 := k1.frozen 1; have K1 := Lib.hid k1; clear k1))
            exact bodyPost_ret (v := .tuple #[.agg #[.int .i64 c, .int .i64 f], .int .i64 0]) (by simp [results, Try.results16, go_sem, r0, r1]) rfl (Ret.mk' (by unfold placeV; rw [HR.out]) (by repeat (first | exact Below.refl _ _ | assumption | refine bel_drewN ?_ _ | refine Below.drew ?_ | refine bel_alloc ?_ _ | refine Below.setCell ?_ (by first | omega | (simp; done) | (simp; omega)) _ | refine bel_step ?_ (by assumption))))
          · have HN := Lib.hid (show scanF (plM s crs l c) 0 19 = scanF (plM s crs l c) (f + 1) (19 - (f + 1)) from by
              rw [HF.out, show 19 - f = (19 - (f + 1)) + 1 from by omega, scanF_no _ _ _ hm])
            clear hm
            rcases hno with hl | ⟨hl1, hl2, hst⟩ | ⟨hl1, hl2, hst, heq⟩
            · have hl1 : (l == []) = true := by simpa using hl
              have hl2 : l.isEmpty = true := by simpa using hl
              clear hl
              go_wp2_with (first | (go_at_call 42; refine (rstands_any _ _ _ _).mono ?_; rintro e w' ⟨rfl, hw⟩; rw [hw]; clear hw) | (go_at_call 38; refine (rsymbol_any _ _ _ _ HS4.out hci hfi).mono ?_; rintro e w2 ⟨rfl, hb⟩; have k1 := HB2.out.after hb; have r0 : w2.cell? ⟨w.heap.size, 0, none⟩ = some (.int .i64 0) := k1.cell 0; have r1 : w2.cell? ⟨w.heap.size, 1, none⟩ = some (.int .i64 0) := k1.cell 1; have r2 := k1.frozen 0; have r3 := k1.frozen 1; have K1 := Lib.hid k1; clear k1))
              go_roundw
              case rel => exact ⟨f + 1, by omega, by go_num, HN.out, hbel2, HB2.out⟩
              case measure => simp [intOf]; omega
            · go_wp2_with (first | (go_at_call 42; refine (rstands_any _ _ _ _).mono ?_; rintro e w' ⟨rfl, hw⟩; rw [hw]; clear hw) | (go_at_call 38; refine (rsymbol_any _ _ _ _ HS4.out hci hfi).mono ?_; rintro e w2 ⟨rfl, hb⟩; have k1 := HB2.out.after hb; have r0 : w2.cell? ⟨w.heap.size, 0, none⟩ = some (.int .i64 0) := k1.cell 0; have r1 : w2.cell? ⟨w.heap.size, 1, none⟩ = some (.int .i64 0) := k1.cell 1; have r2 := k1.frozen 0; have r3 := k1.frozen 1; have K1 := Lib.hid k1; clear k1))
              go_roundw
              case rel => exact ⟨f + 1, by omega, by go_num, HN.out, hbel2, HB2.out⟩
              case measure => simp [intOf]; omega
            · go_wp2_with (first | (go_at_call 42; refine (rstands_any _ _ _ _).mono ?_; rintro e w' ⟨rfl, hw⟩; rw [hw]; clear hw) | (go_at_call 38; refine (rsymbol_any _ _ _ _ HS4.out hci hfi).mono ?_; rintro e w2 ⟨rfl, hb⟩; have k1 := HB2.out.after hb; have r0 : w2.cell? ⟨w.heap.size, 0, none⟩ = some (.int .i64 0) := k1.cell 0; have r1 : w2.cell? ⟨w.heap.size, 1, none⟩ = some (.int .i64 0) := k1.cell 1; have r2 := k1.frozen 0; have r3 := k1.frozen 1; have K1 := Lib.hid k1; clear k1))
              go_roundw
              case rel => exact ⟨f + 1, by omega, by go_num, HN.out, (by repeat (first | exact Below.refl _ _ | assumption | refine bel_drewN ?_ _ | refine Below.drew ?_ | refine bel_alloc ?_ _ | refine Below.setCell ?_ (by first | omega | (simp; done) | (simp; omega)) _ | refine bel_step ?_ (by assumption))), K1.out⟩
              case measure => simp [intOf]; omega
        · have HN := Lib.hid (show scanC (plM s crs l) 1 14 = scanC (plM s crs l) (c + 1) (15 - (c + 1)) from by
            rw [HS.out, show 15 - c = (15 - (c + 1)) + 1 from by omega]
            exact scanC_no _ _ _ (by rw [HF.out, show 19 - f = 0 from by omega]; rfl))
          go_wp2_with fail
          go_roundw
          case rel => exact ⟨c + 1, by omega, by omega, by go_num, HN.out, hbel2, HB2.out⟩
          case measure => simp [intOf]; omega
    · have HR := Lib.hid (placeOf_none HE.out (show scanC (plM s crs l) 1 14 = none from by rw [HS.out, show 15 - c = 0 from by omega]; rfl))
      go_wp2_with fail
      exact bodyPost_ret (v := .tuple #[.agg #[.int .i64 0, .int .i64 0], .int .i64 4]) (by simp [results, Try.results16, go_sem, q0, q1]) rfl (Ret.mk' (by unfold placeV; rw [HR.out]) (by repeat (first | exact Below.refl _ _ | assumption | refine bel_drewN ?_ _ | refine Below.drew ?_ | refine bel_alloc ?_ _ | refine Below.setCell ?_ (by first | omega | (simp; done) | (simp; omega)) _ | refine bel_step ?_ (by assumption))))

theorem rplace_any (s crs : Int) (l : List UInt8) (w : World) :
    Calls Try.prog 16 #[.int .u8 s, .int .i64 crs, .string (bs l)] w (Ret (placeV s crs l) w) := by
  by_cases h : spotErr s crs = 0
  · refine rplace_ok s crs l w ?_ h
    by_cases hs : 1 ≤ s ∧ s ≤ 4
    · exact hs
    · unfold spotErr at h; rw [if_pos hs] at h; cases h
  · have HR := Lib.hid (placeOf_bad (l := l) h)
    have hb2 : (spotErr s crs == 0) = false := by simpa using h
    clear h
    go_enter Try.func16, Try.ntmps16
    go_wp2_with (go_at_call 41; refine (rspot_any _ _ _).mono ?_; rintro e w' ⟨rfl, hw⟩; rw [hw]; clear hw)
    go_returns
    exact Ret.mk' (by unfold placeV; rw [HR.out]) (by repeat (first | exact Below.refl _ _ | assumption | refine bel_drewN ?_ _ | refine Below.drew ?_ | refine bel_alloc ?_ _ | refine Below.setCell ?_ (by first | omega | (simp; done) | (simp; omega)) _ | refine bel_step ?_ (by assumption)))
end Go.Proofs.Yteldgllgagjciaa
