/- ParseCell of the program, in one system. -/
import Derived.Test.YteldgllgagjciaaMa2
import Derived.Test.YteldgllgagjciaaPcP
namespace Go.Proofs.Yteldgllgagjciaa
open Go.RowKit
set_option maxHeartbeats 8000000
set_option maxRecDepth 100000
set_option linter.unusedVariables false
set_option linter.unusedSimpArgs false
attribute [local go_sem] mk_bs bs_size bs_toList bs_append bs_extract
attribute [local simp] run_cut run_cut_to run_cut_from run_add_bs
theorem hp_any_2 (l p : List UInt8) (w : World) : Calls Try.prog 50 #[.string (bs l), .string (bs p)] w fun e w' => e = .returned (.bool (pfx p l)) ∧ w' = w :=
  (Try.strings_HasPrefix (bs l) (bs p) w).mono fun e w' ⟨he, hw⟩ => ⟨by rw [he, bs_data, bs_data]; rfl, hw⟩
theorem pparse_bad_2 (crs L : Int) (l : List UInt8) (w : World) (h : spotErr 2 crs ≠ 0) :
    Calls Try.prog 24 #[.int .u8 2, .int .i64 crs, .string (bs l), .int .i64 L] w (Ret (pcR 2 crs L l) w) := by
  have HR := Lib.hid (pc_bad (L := L) (l := l) h)
  have hb2 : (spotErr 2 crs == 0) = false := by simpa using h
  have HE := Lib.hid h
  clear h
  go_enter Try.func24, Try.ntmps24
  go_wp2_with (go_at_call 39; refine (standing_bad_2 _ _ HE.out).mono ?_; rintro e w' ⟨rfl, rfl⟩)
  go_returns
  exact Ret.mk' (by rw [← HR.out]; rfl) (by repeat (first | exact Below.refl _ _ | assumption | refine bel_drewN ?_ _ | refine Below.drew ?_ | refine bel_alloc ?_ _ | refine Below.setCell ?_ (by first | omega | (simp; done) | (simp; omega)) _ | refine bel_step ?_ (by assumption)))
theorem pparse_hold_2 (crs L : Int) (l : List UInt8) (w : World) (h : spotErr 2 crs = 0) (hL : L < 0 ∨ 15 < L) :
    Calls Try.prog 24 #[.int .u8 2, .int .i64 crs, .string (bs l), .int .i64 L] w (Ret (pcR 2 crs L l) w) := by
  have HR := Lib.hid (pc_hold (l := l) h hL)
  have HE := Lib.hid h
  clear h
  by_cases h1 : L < 0
  · clear hL
    go_enter Try.func24, Try.ntmps24
    go_wp2_with (go_at_call 39; refine (standing_ok_2 _ _ HE.out).mono ?_; rintro e w' ⟨rfl, rfl⟩)
    go_returns
    exact Ret.mk' (by rw [← HR.out]; rfl) (by repeat (first | exact Below.refl _ _ | assumption | refine bel_drewN ?_ _ | refine Below.drew ?_ | refine bel_alloc ?_ _ | refine Below.setCell ?_ (by first | omega | (simp; done) | (simp; omega)) _ | refine bel_step ?_ (by assumption)))
  · have h2 : 15 < L := by omega
    clear hL
    go_enter Try.func24, Try.ntmps24
    go_wp2_with (go_at_call 39; refine (standing_ok_2 _ _ HE.out).mono ?_; rintro e w' ⟨rfl, rfl⟩)
    go_returns
    exact Ret.mk' (by rw [← HR.out]; rfl) (by repeat (first | exact Below.refl _ _ | assumption | refine bel_drewN ?_ _ | refine Below.drew ?_ | refine bel_alloc ?_ _ | refine Below.setCell ?_ (by first | omega | (simp; done) | (simp; omega)) _ | refine bel_step ?_ (by assumption)))
theorem pparse_ok_2 (crs L : Int) (l : List UInt8) (w : World) (h : spotErr 2 crs = 0) (hL : 0 ≤ L ∧ L ≤ 15) :
    Calls Try.prog 24 #[.int .u8 2, .int .i64 crs, .string (bs l), .int .i64 L] w (Ret (pcR 2 crs L l) w) := by
  have HE := Lib.hid h
  clear h
  have n5 : ¬ L < 0 := by omega
  have n6 : ¬ 15 < L := by omega
  go_enter Try.func24, Try.ntmps24
  go_wp2_with (go_at_call 39; refine (standing_ok_2 _ _ HE.out).mono ?_; rintro e w' ⟨rfl, rfl⟩)
  go_loopw [12] (fun v wr => ∃ c : Nat, 1 ≤ c ∧ c ≤ 15 ∧ v = .int .i64 c ∧ NoC 2 crs L l c ∧ Below w.heap.size w wr ∧ Blk wr w.heap.size 40 #[.int .i64 0, .int .i64 0, .int .i64 0, .int .i64 0, .int .i64 0])
    (fun v _ => 15 - (intOf v).toNat)
  case atStart => exact ⟨1, by omega, by omega, rfl, NoC.start _ _ _ _, (by repeat (first | exact Below.refl _ _ | assumption | refine bel_drewN ?_ _ | refine Below.drew ?_ | refine bel_alloc ?_ _ | refine Below.setCell ?_ (by first | omega | (simp; done) | (simp; omega)) _ | refine bel_step ?_ (by assumption))), Blk.new _ _ _⟩
  case round =>
    obtain ⟨c, hc1, hc15, rfl, hsc, hbel, hblk⟩ := hrel
    have HS := Lib.hid hsc
    have HB := Lib.hid hblk
    have hlt : w.heap.size < wr.heap.size := hblk.lt
    have q0 : wr.cell? ⟨w.heap.size, 0, none⟩ = some (.int .i64 0) := hblk.cell 0
    have f0 := hblk.frozen 0
    have q1 : wr.cell? ⟨w.heap.size, 1, none⟩ = some (.int .i64 0) := hblk.cell 1
    have f1 := hblk.frozen 1
    have q2 : wr.cell? ⟨w.heap.size, 2, none⟩ = some (.int .i64 0) := hblk.cell 2
    have f2 := hblk.frozen 2
    have q3 : wr.cell? ⟨w.heap.size, 3, none⟩ = some (.int .i64 0) := hblk.cell 3
    have f3 := hblk.frozen 3
    have q4 : wr.cell? ⟨w.heap.size, 4, none⟩ = some (.int .i64 0) := hblk.cell 4
    have f4 := hblk.frozen 4
    clear hsc hblk
    by_cases hle : c ≤ 14
    · have hci : 1 ≤ (c : Int) ∧ (c : Int) ≤ 14 := by omega
      by_cases hst : standsB 2 crs c = true
      · go_wp2_with (go_at_call 40; refine (stands_any _ _ _ _).mono ?_; rintro e w' ⟨rfl, hw⟩; rw [hw]; clear hw)
        clear q0 q1 q2 q3 q4 f0 f1 f2 f3 f4
        go_loopw [13] (fun v wi => ∃ f : Nat, f ≤ 19 ∧ v = .int .i64 f ∧ NoF 2 crs L l c f ∧ Below w.heap.size w wi ∧ Blk wi w.heap.size 40 #[.int .i64 0, .int .i64 0, .int .i64 0, .int .i64 0, .int .i64 0])
          (fun v _ => 19 - (intOf v).toNat)
        case atStart => exact ⟨0, by omega, rfl, NoF.start _ _ _ _ _, hbel, HB.out⟩
        case round =>
          obtain ⟨f, hf19, rfl, hsf, hbel2, hblk⟩ := hrel
          have HF := Lib.hid hsf
          have HB2 := Lib.hid hblk
          have hlt2 : w.heap.size < wr.heap.size := hblk.lt
          have q0 : wr.cell? ⟨w.heap.size, 0, none⟩ = some (.int .i64 0) := hblk.cell 0
          have f0 := hblk.frozen 0
          have q1 : wr.cell? ⟨w.heap.size, 1, none⟩ = some (.int .i64 0) := hblk.cell 1
          have f1 := hblk.frozen 1
          have q2 : wr.cell? ⟨w.heap.size, 2, none⟩ = some (.int .i64 0) := hblk.cell 2
          have f2 := hblk.frozen 2
          have q3 : wr.cell? ⟨w.heap.size, 3, none⟩ = some (.int .i64 0) := hblk.cell 3
          have f3 := hblk.frozen 3
          have q4 : wr.cell? ⟨w.heap.size, 4, none⟩ = some (.int .i64 0) := hblk.cell 4
          have f4 := hblk.frozen 4
          clear hsf hblk
          by_cases hle2 : f ≤ 18
          · have hfi : 0 ≤ (f : Int) ∧ (f : Int) ≤ 18 := by omega
            cases hok : pOk 2 c f
            · have HN := Lib.hid (HF.out.step (stM_sym (.inl hok)))
              go_wp2_with (go_at_call 142; refine (psym_2 _ _ _ hci hfi).mono ?_; rintro e w2 ⟨rfl, hb⟩; have K1 := Lib.hid (HB2.out.after hb); have hlt3 : w.heap.size < w2.heap.size := K1.out.lt)
              go_roundw
              case rel => exact ⟨f + 1, by omega, by go_num, HN.out, (by repeat (first | exact Below.refl _ _ | assumption | refine bel_drewN ?_ _ | refine Below.drew ?_ | refine bel_alloc ?_ _ | refine Below.setCell ?_ (by first | omega | (simp; done) | (simp; omega)) _ | refine bel_step ?_ (by assumption))), K1.out⟩
              case measure => simp [intOf]; omega
            · cases hpf : pfx (pS 2 c f) l
              · have HN := Lib.hid (HF.out.step (stM_sym (.inr hpf)))
                go_wp2_with (first
                  | (go_at_call 142; refine (psym_2 _ _ _ hci hfi).mono ?_; rintro e w2 ⟨rfl, hb⟩; have K1 := Lib.hid (HB2.out.after hb); have hlt3 : w.heap.size < w2.heap.size := K1.out.lt)
                  | (go_at_call 50; refine (hp_any_2 _ _ _).mono ?_; rintro e w' ⟨rfl, hw⟩; rw [hw]; clear hw))
                go_roundw
                case rel => exact ⟨f + 1, by omega, by go_num, HN.out, (by repeat (first | exact Below.refl _ _ | assumption | refine bel_drewN ?_ _ | refine Below.drew ?_ | refine bel_alloc ?_ _ | refine Below.setCell ?_ (by first | omega | (simp; done) | (simp; omega)) _ | refine bel_step ?_ (by assumption))), K1.out⟩
                case measure => simp [intOf]; omega
              · go_wp2_with (first
                  | (go_at_call 142; refine (psym_2 _ _ _ hci hfi).mono ?_; rintro e w2 ⟨rfl, hb⟩; have K1 := Lib.hid (HB2.out.after hb); have hlt3 : w.heap.size < w2.heap.size := K1.out.lt)
                  | (go_at_call 50; refine (hp_any_2 _ _ _).mono ?_; rintro e w' ⟨rfl, hw⟩; rw [hw]; clear hw)
                  | (go_at_call 51; refine (markedAs_2 _ _ _ _ _ _ _ _ hci hfi hL).mono ?_; rintro e w3 ⟨hb3, hm⟩; have K2 := Lib.hid (K1.out.after hb3); have r0 : w3.cell? ⟨w.heap.size, 0, none⟩ = some (.int .i64 0) := K2.out.cell 0; have s0 := K2.out.frozen 0; have r1 : w3.cell? ⟨w.heap.size, 1, none⟩ = some (.int .i64 0) := K2.out.cell 1; have s1 := K2.out.frozen 1; have r2 : w3.cell? ⟨w.heap.size, 2, none⟩ = some (.int .i64 0) := K2.out.cell 2; have s2 := K2.out.frozen 2; have r3 : w3.cell? ⟨w.heap.size, 3, none⟩ = some (.int .i64 0) := K2.out.cell 3; have s3 := K2.out.frozen 3; have r4 : w3.cell? ⟨w.heap.size, 4, none⟩ = some (.int .i64 0) := K2.out.cell 4; have s4 := K2.out.frozen 4; have hlt4 : w.heap.size < w3.heap.size := K2.out.lt; rcases hm with ⟨r, g, h, hm, rfl⟩ | ⟨hm, rfl⟩ <;> have HM := Lib.hid hm <;> clear hm))
                · have HR := Lib.hid (pc_found HE.out hL ⟨hc1, hle⟩ hle2 hst HM.out)
                  have K5 := (((((K2.out.set_ 0 (.int .i64 c)).set_ 1 (.int .i64 f)).set_ 2 (.int .i64 r)).set_ 3 (.int .i64 g)).set_ 4 (.int .i64 h)).alloc (.cells #[.int .i64 c, .int .i64 f, .int .i64 r, .int .i64 g, .int .i64 h] 40)
                  refine bodyPost_ret (v := .tuple #[.agg #[.int .i64 c, .int .i64 f, .int .i64 r, .int .i64 g, .int .i64 h], .int .i64 0]) ?_ rfl (Ret.mk' (by rw [← HR.out]; simp [pcVal]) (by repeat (first | exact Below.refl _ _ | assumption | refine bel_drewN ?_ _ | refine Below.drew ?_ | refine bel_alloc ?_ _ | refine Below.setCell ?_ (by first | omega | (simp; done) | (simp; omega)) _ | refine bel_step ?_ (by assumption))))
                  generalize (((((w3.setCell ⟨w.heap.size, 0, none⟩ (.int .i64 c)).setCell ⟨w.heap.size, 1, none⟩ (.int .i64 f)).setCell ⟨w.heap.size, 2, none⟩ (.int .i64 r)).setCell ⟨w.heap.size, 3, none⟩ (.int .i64 g)).setCell ⟨w.heap.size, 4, none⟩ (.int .i64 h)).alloc (.cells #[.int .i64 c, .int .i64 f, .int .i64 r, .int .i64 g, .int .i64 h] 40) = wf at K5 ⊢
                  have t0 : wf.cell? ⟨w.heap.size, 0, none⟩ = some (.int .i64 c) := K5.cell 0
                  have t1 : wf.cell? ⟨w.heap.size, 1, none⟩ = some (.int .i64 f) := K5.cell 1
                  have t2 : wf.cell? ⟨w.heap.size, 2, none⟩ = some (.int .i64 r) := K5.cell 2
                  have t3 : wf.cell? ⟨w.heap.size, 3, none⟩ = some (.int .i64 g) := K5.cell 3
                  have t4 : wf.cell? ⟨w.heap.size, 4, none⟩ = some (.int .i64 h) := K5.cell 4
                  simp [results, Try.results24, go_sem, t0, t1, t2, t3, t4]
                · have HN := Lib.hid (HF.out.step HM.out)
                  refine ⟨⟨f + 1, by omega, by go_num, HN.out, (by repeat (first | exact Below.refl _ _ | assumption | refine bel_drewN ?_ _ | refine Below.drew ?_ | refine bel_alloc ?_ _ | refine Below.setCell ?_ (by first | omega | (simp; done) | (simp; omega)) _ | refine bel_step ?_ (by assumption))), K2.out.alloc _⟩, ?_⟩
                  simp [intOf]; omega
          · have HN := Lib.hid (HS.out.step (show NoF 2 crs L l c 19 from by have := HF.out; rwa [show f = 19 from by omega] at this))
            go_wp2_with fail
            go_roundw
            case rel => exact ⟨c + 1, by omega, by omega, by go_num, HN.out, hbel2, HB2.out⟩
            case measure => simp [intOf]; omega
      · have hst' : standsB 2 crs c = false := by simpa using hst
        have HN := Lib.hid (HS.out.skip hst')
        clear hst
        go_wp2_with (go_at_call 40; refine (stands_any _ _ _ _).mono ?_; rintro e w' ⟨rfl, hw⟩; rw [hw]; clear hw)
        go_roundw
        case rel => exact ⟨c + 1, by omega, by omega, by go_num, HN.out, hbel, HB.out⟩
        case measure => simp [intOf]; omega
    · have HR := Lib.hid (pc_none HE.out hL (show NoC 2 crs L l 15 from by have := HS.out; rwa [show c = 15 from by omega] at this))
      go_wp2_with fail
      exact bodyPost_ret (v := .tuple #[.agg #[.int .i64 0, .int .i64 0, .int .i64 0, .int .i64 0, .int .i64 0], .int .i64 4]) (by simp [results, Try.results24, go_sem, q0, q1, q2, q3, q4]) rfl (Ret.mk' (by rw [← HR.out]; rfl) (by repeat (first | exact Below.refl _ _ | assumption | refine bel_drewN ?_ _ | refine Below.drew ?_ | refine bel_alloc ?_ _ | refine Below.setCell ?_ (by first | omega | (simp; done) | (simp; omega)) _ | refine bel_step ?_ (by assumption))))
theorem pparse_2 (crs L : Int) (l : List UInt8) (w : World) :
    Calls Try.prog 24 #[.int .u8 2, .int .i64 crs, .string (bs l), .int .i64 L] w (Ret (pcR 2 crs L l) w) := by
  by_cases h : spotErr 2 crs = 0
  · by_cases hL : 0 ≤ L ∧ L ≤ 15
    · exact pparse_ok_2 crs L l w h hL
    · exact pparse_hold_2 crs L l w h (by omega)
  · exact pparse_bad_2 crs L l w h
end Go.Proofs.Yteldgllgagjciaa
