/- Cell of the reference: what can be said. -/
import Derived.Test.YteldgllgagjciaaRCell2
import Derived.BigQuiet
import Derived.Deep.QuietTactic
namespace Go.Proofs.Yteldgllgagjciaa
open Go.RowKit
set_option maxHeartbeats 1600000
set_option maxRecDepth 100000
set_option linter.unusedVariables false
set_option linter.unusedSimpArgs false
attribute [local go_sem] mk_bs bs_size bs_toList bs_append bs_extract
attribute [local simp] run_cut run_cut_to run_cut_from run_add_bs
theorem rCell_lacks (s c f r g h L : Int) (w : World) (hSY : ∀ w, Calls Try.prog 13 #[.int .u8 s, .agg #[.int .i64 c, .int .i64 f]] w (Ret (.tuple #[.string (bs (rS s c f)), .int .i64 0]) w)) (hs : 1 ≤ s ∧ s ≤ 4) (hc : 1 ≤ c ∧ c ≤ 14) (hf : 0 ≤ f ∧ f ≤ 18) (hne : rS s c f ≠ []) (hr : 0 ≤ r ∧ r ≤ 3) (hg : 0 ≤ g ∧ g ≤ 4) (hm : ¬ (((L < 0 ∨ 15 < L) ∨ (h < 0 ∨ L < h)) ∨ (0 < h ∧ f = 0))) (hk : 0 < (wantsL s c f r g h L).length) :
    Calls Try.prog 23 #[.int .u8 s, .agg #[.int .i64 c, .int .i64 f, .int .i64 r, .int .i64 g, .int .i64 h], .int .i64 L] w (Ret (.tuple #[.string (bs []), .int .i64 31]) w) := by
  have SY := Lib.hid hSY
  have HS := Lib.hid hs
  have hh : 0 ≤ h ∧ h ≤ 99 := by omega
  obtain ⟨n, hn⟩ : ∃ n, (wantsL s c f r g h L).length = n := ⟨_, rfl⟩
  have HWt := Lib.hid (fun w => wants_len s c f r g h L w hs hc hf hr hg hh hne)
  rw [hn] at HWt hk
  have hk' : (0 : Int) < (n : Int) := by omega
  have n1 : ¬ r < 0 := by omega
  have n2 : ¬ 3 < r := by omega
  have n3 : ¬ g < 0 := by omega
  have n4 : ¬ 4 < g := by omega
  have n5 : ¬ L < 0 := by omega
  have n6 : ¬ 15 < L := by omega
  have n7 : ¬ h < 0 := by omega
  have n8 : ¬ L < h := by omega
  have hcase : ((f == 0) = true ∧ (h == 0) = true ∧ (h != 0) = false) ∨ ((f == 0) = false ∧ True ∧ True) := by
    by_cases hz : f = 0
    · have : h = 0 := by omega
      exact .inl ⟨by simpa using hz, by simpa using this, by simpa using this⟩
    · exact .inr ⟨by simpa using hz, trivial, trivial⟩
  clear hm
  clear hn hSY hs hne
  rcases hcase with ⟨m1, m2, m3⟩ | ⟨m1, m2, m3⟩
  all_goals
    go_enter Try.func23, Try.ntmps23
    go_wp2_with (first | (go_at_call 13; refine (SY.out _).mono ?_; rintro e w1 ⟨rfl, hb1⟩; have k1 := (Blk.new _ _ _).after hb1; have x0 : w1.cell? ⟨w.heap.size, 0, none⟩ = some (.int .i64 c) := k1.cell 0; have x1 : w1.cell? ⟨w.heap.size, 1, none⟩ = some (.int .i64 f) := k1.cell 1; have x2 : w1.cell? ⟨w.heap.size, 2, none⟩ = some (.int .i64 r) := k1.cell 2; have x3 : w1.cell? ⟨w.heap.size, 3, none⟩ = some (.int .i64 g) := k1.cell 3; have x4 : w1.cell? ⟨w.heap.size, 4, none⟩ = some (.int .i64 h) := k1.cell 4; have K1 := Lib.hid k1; clear k1) | (go_at_call 46; refine (HWt.out _).mono ?_; rintro e w2 ⟨a, cap, rfl, hb2⟩; have k2 := K1.out.after hb2; have y0 : w2.cell? ⟨w.heap.size, 0, none⟩ = some (.int .i64 c) := k2.cell 0; have y1 : w2.cell? ⟨w.heap.size, 1, none⟩ = some (.int .i64 f) := k2.cell 1; have y2 : w2.cell? ⟨w.heap.size, 2, none⟩ = some (.int .i64 r) := k2.cell 2; have y3 : w2.cell? ⟨w.heap.size, 3, none⟩ = some (.int .i64 g) := k2.cell 3; have y4 : w2.cell? ⟨w.heap.size, 4, none⟩ = some (.int .i64 h) := k2.cell 4; clear k2))
    go_ret2
    exact Ret.mk' rfl (by repeat (first | exact Below.refl _ _ | assumption | refine bel_drewN ?_ _ | refine Below.drew ?_ | refine bel_alloc ?_ _ | refine Below.setCell ?_ (by first | omega | (simp; done) | (simp; omega)) _ | refine bel_step ?_ (by assumption)))
theorem rCell_says (s c f r g h L : Int) (w : World) (hSY : ∀ w, Calls Try.prog 13 #[.int .u8 s, .agg #[.int .i64 c, .int .i64 f]] w (Ret (.tuple #[.string (bs (rS s c f)), .int .i64 0]) w)) (hs : 1 ≤ s ∧ s ≤ 4) (hc : 1 ≤ c ∧ c ≤ 14) (hf : 0 ≤ f ∧ f ≤ 18) (hne : rS s c f ≠ []) (hr : 0 ≤ r ∧ r ≤ 3) (hg : 0 ≤ g ∧ g ≤ 4) (hm : ¬ (((L < 0 ∨ 15 < L) ∨ (h < 0 ∨ L < h)) ∨ (0 < h ∧ f = 0))) (hk : (wantsL s c f r g h L).length = 0) :
    Calls Try.prog 23 #[.int .u8 s, .agg #[.int .i64 c, .int .i64 f, .int .i64 r, .int .i64 g, .int .i64 h], .int .i64 L] w (Ret (.tuple #[.string (bs (rS s c f ++ rR s r ++ rG s g ++ pH s h L)), .int .i64 0]) w) := by
  have SY := Lib.hid hSY
  have HS := Lib.hid hs
  have hh : 0 ≤ h ∧ h ≤ 99 := by omega
  have HWt := Lib.hid (fun w => wants_len s c f r g h L w hs hc hf hr hg hh hne)
  rw [hk] at HWt
  have a1 := (pS_len s c f hs hc hf).2
  have a2 := rR_len s r
  have a3 := rG_len s g
  have a4 := rH_len s h L
  have b1 : (rS s c f).length + (rR s r).length ≤ 9223372036854775807 := by omega
  have b2 : (rS s c f).length + (rR s r).length + (rG s g).length ≤ 9223372036854775807 := by omega
  have b2' : (rS s c f).length + ((rR s r).length + (rG s g).length) ≤ 9223372036854775807 := by omega
  have b3 : (rS s c f).length + (rR s r).length + (rG s g).length + (rH s h L).length ≤ 9223372036854775807 := by omega
  have b3' : (rS s c f).length + ((rR s r).length + ((rG s g).length + (rH s h L).length)) ≤ 9223372036854775807 := by omega
  have b3c : (rS s c f).length + ((rR s r).length + (rG s g).length) + (rH s h L).length ≤ 9223372036854775807 := by omega
  clear a1 a2 a3 a4
  have n1 : ¬ r < 0 := by omega
  have n2 : ¬ 3 < r := by omega
  have n3 : ¬ g < 0 := by omega
  have n4 : ¬ 4 < g := by omega
  have n5 : ¬ L < 0 := by omega
  have n6 : ¬ 15 < L := by omega
  have n7 : ¬ h < 0 := by omega
  have n8 : ¬ L < h := by omega
  by_cases hz : h = 0
  · have e : pH s h L = [] := if_pos hz
    have hz1 : ¬ 0 < h := by omega
    have hz2 : (h == 0) = true := by simpa using hz
    have hz3 : (h != 0) = false := by simpa using hz
    rw [e]
    clear e hz hm hk hSY hs hne
    cases hfz : (f == 0)
    all_goals
      go_enter Try.func23, Try.ntmps23
      go_wp2_with (first | (go_at_call 13; refine (SY.out _).mono ?_; rintro e w1 ⟨rfl, hb1⟩; have k1 := (Blk.new _ _ _).after hb1; have x0 : w1.cell? ⟨w.heap.size, 0, none⟩ = some (.int .i64 c) := k1.cell 0; have x1 : w1.cell? ⟨w.heap.size, 1, none⟩ = some (.int .i64 f) := k1.cell 1; have x2 : w1.cell? ⟨w.heap.size, 2, none⟩ = some (.int .i64 r) := k1.cell 2; have x3 : w1.cell? ⟨w.heap.size, 3, none⟩ = some (.int .i64 g) := k1.cell 3; have x4 : w1.cell? ⟨w.heap.size, 4, none⟩ = some (.int .i64 h) := k1.cell 4; have K1 := Lib.hid k1; clear k1) | (go_at_call 46; refine (HWt.out _).mono ?_; rintro e w2 ⟨a, cap, rfl, hb2⟩; have k2 := K1.out.after hb2; have y0 : w2.cell? ⟨w.heap.size, 0, none⟩ = some (.int .i64 c) := k2.cell 0; have y1 : w2.cell? ⟨w.heap.size, 1, none⟩ = some (.int .i64 f) := k2.cell 1; have y2 : w2.cell? ⟨w.heap.size, 2, none⟩ = some (.int .i64 r) := k2.cell 2; have y3 : w2.cell? ⟨w.heap.size, 3, none⟩ = some (.int .i64 g) := k2.cell 3; have y4 : w2.cell? ⟨w.heap.size, 4, none⟩ = some (.int .i64 h) := k2.cell 4; clear k2))
      go_quiet ((first | (go_at_call 47; exact Calls.quiet_of_same (rright_any _ _ _ HS.out hr)) | (go_at_call 48; exact Calls.quiet_of_same (rgrace_any _ _ _ HS.out hg))))
      go_wp2_with fail
      go_ret2
      exact Ret.mk' (by simp) (by repeat (first | exact Below.refl _ _ | assumption | refine bel_drewN ?_ _ | refine Below.drew ?_ | refine bel_alloc ?_ _ | refine Below.setCell ?_ (by first | omega | (simp; done) | (simp; omega)) _ | refine bel_step ?_ (by assumption)))
  · have e : pH s h L = rH s h L := if_neg hz
    have hz1 : 0 < h := by omega
    have hfz : (f == 0) = false := by simp; omega
    rw [e]
    clear e hz hm hk hSY hs hne
    go_enter Try.func23, Try.ntmps23
    go_wp2_with (first | (go_at_call 13; refine (SY.out _).mono ?_; rintro e w1 ⟨rfl, hb1⟩; have k1 := (Blk.new _ _ _).after hb1; have x0 : w1.cell? ⟨w.heap.size, 0, none⟩ = some (.int .i64 c) := k1.cell 0; have x1 : w1.cell? ⟨w.heap.size, 1, none⟩ = some (.int .i64 f) := k1.cell 1; have x2 : w1.cell? ⟨w.heap.size, 2, none⟩ = some (.int .i64 r) := k1.cell 2; have x3 : w1.cell? ⟨w.heap.size, 3, none⟩ = some (.int .i64 g) := k1.cell 3; have x4 : w1.cell? ⟨w.heap.size, 4, none⟩ = some (.int .i64 h) := k1.cell 4; have K1 := Lib.hid k1; clear k1) | (go_at_call 46; refine (HWt.out _).mono ?_; rintro e w2 ⟨a, cap, rfl, hb2⟩; have k2 := K1.out.after hb2; have y0 : w2.cell? ⟨w.heap.size, 0, none⟩ = some (.int .i64 c) := k2.cell 0; have y1 : w2.cell? ⟨w.heap.size, 1, none⟩ = some (.int .i64 f) := k2.cell 1; have y2 : w2.cell? ⟨w.heap.size, 2, none⟩ = some (.int .i64 r) := k2.cell 2; have y3 : w2.cell? ⟨w.heap.size, 3, none⟩ = some (.int .i64 g) := k2.cell 3; have y4 : w2.cell? ⟨w.heap.size, 4, none⟩ = some (.int .i64 h) := k2.cell 4; clear k2))
    go_quiet ((first | (go_at_call 47; exact Calls.quiet_of_same (rright_any _ _ _ HS.out hr)) | (go_at_call 48; exact Calls.quiet_of_same (rgrace_any _ _ _ HS.out hg))))
    go_wp2_with (go_at_call 49; refine (rhold_any _ _ _ _ HS.out hh).mono ?_; rintro e w' ⟨rfl, hw⟩; rw [hw]; clear hw)
    go_ret2
    exact Ret.mk' (by simp) (by repeat (first | exact Below.refl _ _ | assumption | refine bel_drewN ?_ _ | refine Below.drew ?_ | refine bel_alloc ?_ _ | refine Below.setCell ?_ (by first | omega | (simp; done) | (simp; omega)) _ | refine bel_step ?_ (by assumption)))
theorem rCell_any (s c f r g h L : Int) (w : World) : Calls Try.prog 23 #[.int .u8 s, .agg #[.int .i64 c, .int .i64 f, .int .i64 r, .int .i64 g, .int .i64 h], .int .i64 L] w (Ret (.tuple #[.string (bs (cellTxt s c f r g h L)), .int .i64 (cellErr s c f r g h L)]) w) := by
  have hSY := fun w => rsymbolT_any s c f w
  by_cases hs : 1 ≤ s ∧ s ≤ 4
  · by_cases hb : (c < 1 ∨ 14 < c) ∨ (f < 0 ∨ 18 < f)
    · have e := cellErr_place s c f r g h L hs hb
      have es := symErr_bad s c f hs hb
      rw [e.1, e.2]
      exact rCell_place s c f r g h L _ _ w hSY (by rw [es]; split <;> decide) (by rw [es]; split <;> decide)
    · have hc : 1 ≤ c ∧ c ≤ 14 := by omega
      have hf : 0 ≤ f ∧ f ≤ 18 := by omega
      have hE := symErr_good s c f hs hc hf
      by_cases h1 : (r < 0 ∨ 3 < r) ∨ (g < 0 ∨ 4 < g)
      · have e := cellErr_marks s c f r g h L hs hc hf h1
        rw [e.1, e.2]; exact rCell_marks s c f r g h L _ _ w hSY hE h1
      · have hr : 0 ≤ r ∧ r ≤ 3 := by omega
        have hg : 0 ≤ g ∧ g ≤ 4 := by omega
        by_cases h2 : ((L < 0 ∨ 15 < L) ∨ (h < 0 ∨ L < h)) ∨ (0 < h ∧ f = 0)
        · have e := cellErr_holds s c f r g h L hs hc hf h1 h2
          rw [e.1, e.2]; exact rCell_holds s c f r g h L _ _ w hSY hE hr hg h2
        · rw [cellErr_ok s c f r g h L hs hc hf h1 h2]
          obtain ⟨l1, l2⟩ := sym_law s c f hs hc hf
          by_cases hne : rS s c f = []
          · have hk : cellOk s c f r g h L = false := by unfold cellOk; rw [l1, hne]; rfl
            rw [hk, if_neg (by decide)]
            refine rCell_cannot s c f r g h L _ _ w hSY ?_ hr hg h2
            unfold symErr; rw [if_neg (fun k => k hs), if_neg (by omega), if_neg (by omega), if_pos hne]
          · have e0 : symErr s c f = 0 := by unfold symErr; rw [if_neg (fun k => k hs), if_neg (by omega), if_neg (by omega), if_neg hne]
            have e1 : symTxt s c f = rS s c f := by unfold symTxt; rw [if_pos e0]
            rw [e0, e1] at hSY
            rcases wants_ok s c f r g h L hs hc hf hne with ⟨k1, k2⟩ | ⟨k1, k2⟩
            · rw [k2, if_pos rfl]
              have hp : pOk s c f = true := by rw [l1]; simpa using hne
              have ec : cellS s c f r g h L = rS s c f ++ rR s r ++ rG s g ++ pH s h L := by unfold cellS; rw [l2 hp]
              rw [ec]
              exact rCell_says s c f r g h L w hSY hs hc hf hne hr hg h2 k1
            · rw [k2, if_neg (by decide)]
              exact rCell_lacks s c f r g h L w hSY hs hc hf hne hr hg h2 k1
  · have e0 : symErr s c f = 30 := if_pos hs
    have e1 : cellErr s c f r g h L = 30 := by unfold cellErr; rw [e0, if_pos (by decide)]
    have e2 : cellTxt s c f r g h L = [] := by unfold cellTxt; rw [e1, if_neg (by decide)]
    rw [e1, e2]
    rw [e0] at hSY
    exact rCell_place s c f r g h L _ _ w hSY (by decide) (by decide)
end Go.Proofs.Yteldgllgagjciaa
