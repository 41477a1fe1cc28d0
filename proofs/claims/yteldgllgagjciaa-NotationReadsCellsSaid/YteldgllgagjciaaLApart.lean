/- NotationApart: the plain law and the walk. -/
import Derived.Test.YteldgllgagjciaaWorks
import Derived.BigQuiet
import Derived.Deep.QuietTactic
namespace Go.Proofs.Yteldgllgagjciaa
open Go.RowKit
set_option maxHeartbeats 1600000
set_option maxRecDepth 100000
set_option linter.unusedVariables false
set_option linter.unusedSimpArgs false
attribute [local go_sem] mk_bs bs_size bs_toList bs_append bs_extract

/-- Where a course stands. -/
def spotOf (s c : Int) : Int := if s = 4 ∨ 6 < c then 0 else c
def apartOne (s c f : Nat) : Bool := (rS s c f).isEmpty || (spotErr s (spotOf s c) == 0 && scanC (plM s (spotOf s c) (rS s c f)) 1 14 == some (c, f))
theorem apartAll1 : ((List.range' 1 14).all fun c => (List.range 19).all fun f => apartOne 1 c f) = true := by decide +kernel
theorem apartAll2 : ((List.range' 1 14).all fun c => (List.range 19).all fun f => apartOne 2 c f) = true := by decide +kernel
theorem apartAll3 : ((List.range' 1 14).all fun c => (List.range 19).all fun f => apartOne 3 c f) = true := by decide +kernel
theorem apartAll4 : ((List.range' 1 14).all fun c => (List.range 19).all fun f => apartOne 4 c f) = true := by decide +kernel
theorem apart_law (s c f : Int) (h : symErr s c f = 0) : rS s c f ≠ [] ∧ placeOf s (spotOf s c) (rS s c f) = (c, f, 0) := by
  have hs : 1 ≤ s ∧ s ≤ 4 := by
    by_cases hs : 1 ≤ s ∧ s ≤ 4
    · exact hs
    · unfold symErr at h; rw [if_pos hs] at h; cases h
  have hb : ¬ ((c < 1 ∨ 14 < c) ∨ (f < 0 ∨ 18 < f)) := by
    intro hb
    rw [symErr_bad s c f hs hb] at h
    split at h <;> cases h
  have hne : rS s c f ≠ [] := by
    intro h0
    unfold symErr at h
    rw [if_neg (fun k => k hs), if_neg (by omega), if_neg (by omega), if_pos h0] at h
    cases h
  refine ⟨hne, ?_⟩
  obtain ⟨c, rfl⟩ := Int.eq_ofNat_of_zero_le (show 0 ≤ c by omega)
  obtain ⟨f, rfl⟩ := Int.eq_ofNat_of_zero_le (show 0 ≤ f by omega)
  have hall : ((List.range' 1 14).all fun c => (List.range 19).all fun f => apartOne s.toNat c f) = true := by
    have h4 : s = 1 ∨ s = 2 ∨ s = 3 ∨ s = 4 := by omega
    rcases h4 with rfl | rfl | rfl | rfl
    · exact apartAll1
    · exact apartAll2
    · exact apartAll3
    · exact apartAll4
  obtain ⟨s, rfl⟩ := Int.eq_ofNat_of_zero_le (show 0 ≤ s by omega)
  rw [Int.toNat_natCast, List.all_eq_true] at hall
  have h2 := hall c (List.mem_range'_1.2 (by omega))
  rw [List.all_eq_true] at h2
  have h3 := h2 f (List.mem_range.2 (by omega))
  unfold apartOne at h3
  have hne' : (rS (s : Nat) (c : Nat) (f : Nat)).isEmpty = false := by simpa using hne
  rw [hne'] at h3
  simp only [Bool.false_or, Bool.and_eq_true, beq_iff_eq] at h3
  exact placeOf_some h3.1 h3.2

theorem spot_any (s c : Int) (w : World) : Calls Try.prog 17 #[.int .u8 s, .int .i64 c] w fun e w' => e = .returned (.int .i64 (spotOf s c)) ∧ w' = w := by
  by_cases h4 : s = 4
  · subst h4
    go_enter Try.func17, Try.ntmps17
    go_wp2
    go_ret
    exact ⟨rfl, rfl⟩
  · have hb : (s == 4) = false := by simp; exact h4
    by_cases h6 : 6 < c
    · have e : spotOf s c = 0 := if_pos (.inr h6)
      rw [e]
      go_enter Try.func17, Try.ntmps17
      go_wp2
      go_ret
      exact ⟨rfl, rfl⟩
    · have e : spotOf s c = c := if_neg (by omega)
      rw [e]
      go_enter Try.func17, Try.ntmps17
      go_wp2
      go_ret
      exact ⟨rfl, rfl⟩

theorem placeA (s a x : Int) (l : List UInt8) (w : World) (h : placeOf s (spotOf s a) l = (a, x, 0)) :
    Calls Try.prog 15 #[.int .u8 s, .int .i64 (spotOf s a), .string (bs l)] w (Ret (.tuple #[.agg #[.int .i64 a, .int .i64 x], .int .i64 0]) w) := by
  have k := place_any s (spotOf s a) l w
  unfold placeV at k
  rw [h] at k
  exact k
theorem symA (s a x : Int) (l : List UInt8) (e : Int) (w : World) (h1 : symTxt s a x = l) (h2 : symErr s a x = e) :
    Calls Try.prog 12 #[.int .u8 s, .agg #[.int .i64 a, .int .i64 x]] w (Ret (.tuple #[.string (bs l), .int .i64 e]) w) := by
  have k := psymbol_any s a x w
  rw [h1, h2] at k
  exact k

theorem apart_bad (s a x b y : Int) (w : World) (h : symErr s a x ≠ 0) : Calls Try.prog 5 #[.int .u8 s, .agg #[.int .i64 a, .int .i64 x], .agg #[.int .i64 b, .int .i64 y]] w (Ret (.bool true) w) := by
  have e1 : symTxt s a x = [] := by unfold symTxt; rw [if_neg h]
  obtain ⟨E, hE⟩ : ∃ E, symErr s a x = E := ⟨_, rfl⟩
  have hE0 : (E == 0) = false := by rw [← hE]; simpa using h
  have hE1 : (E != 0) = true := by rw [← hE]; simpa using h
  have H1 := Lib.hid e1
  have H2 := Lib.hid hE
  clear e1 hE h
  go_enter Try.func5, Try.ntmps5
  go_wp2_with fail
  refine (symA s a x [] E _ H1.out H2.out).mono ?_
  rintro e w1 ⟨rfl, hb1⟩
  have k1 := ((Blk.new w 24 #[.int .i64 a, .int .i64 x]).alloc (.cells #[.int .i64 b, .int .i64 y] 24)).after hb1
  have k2 := (Blk.new (w.alloc (.cells #[.int .i64 a, .int .i64 x] 24)) 24 #[.int .i64 b, .int .i64 y]).after hb1
  have x0 : w1.cell? ⟨w.heap.size, 0, none⟩ = some (.int .i64 a) := k1.cell 0
  have x1 : w1.cell? ⟨w.heap.size, 1, none⟩ = some (.int .i64 x) := k1.cell 1
  have y0 : w1.cell? ⟨w.heap.size + 1, 0, none⟩ = some (.int .i64 b) := by simpa using k2.cell 0
  have y1 : w1.cell? ⟨w.heap.size + 1, 1, none⟩ = some (.int .i64 y) := by simpa using k2.cell 1
  clear k1 k2
  go_wp2_with fail
  refine (psymbol_any _ _ _ _).mono ?_
  rintro e w2 ⟨rfl, hb2⟩
  go_wp2_with (go_at_call 14; refine (works_any _).mono ?_; rintro e w3 ⟨rfl, hb3⟩)
  go_ret
  exact Ret.mk' rfl (by repeat (first | exact Below.refl _ _ | assumption | refine bel_drewN ?_ _ | refine Below.drew ?_ | refine bel_alloc ?_ _ | refine Below.setCell ?_ (by first | omega | (simp; done) | (simp; omega)) _ | refine bel_step ?_ (by assumption)))
theorem apart_good (s a x b y : Int) (w : World) (h : symErr s a x = 0) : Calls Try.prog 5 #[.int .u8 s, .agg #[.int .i64 a, .int .i64 x], .agg #[.int .i64 b, .int .i64 y]] w (Ret (.bool true) w) := by
  obtain ⟨hne, hpl⟩ := apart_law s a x h
  obtain ⟨L, hL⟩ : ∃ L, symTxt s a x = L := ⟨_, rfl⟩
  have hLr : rS s a x = L := by rw [← hL]; unfold symTxt; rw [if_pos h]
  rw [hLr] at hne hpl
  obtain ⟨T2, hT2⟩ : ∃ T, symTxt s b y = T := ⟨_, rfl⟩
  obtain ⟨E2, hE2⟩ : ∃ E, symErr s b y = E := ⟨_, rfl⟩
  have hl1 : (L == []) = false := by simpa using hne
  have hl2 : L.isEmpty = false := by simpa using hne
  have H1 := Lib.hid hL
  have H2 := Lib.hid h
  have H3 := Lib.hid hT2
  have H4 := Lib.hid hE2
  have HP := Lib.hid hpl
  by_cases hE : E2 = 0
  · by_cases hS : spotOf s a = spotOf s b
    · by_cases hT : L = T2
      · have hab : a = b ∧ x = y := by
          rw [← hE] at H2
          obtain ⟨_, hq⟩ := apart_law s b y (by rw [hE2, hE])
          have hr : rS s b y = T2 := by rw [← hT2]; unfold symTxt; rw [if_pos (by rw [hE2, hE])]
          rw [hr, ← hS, ← hT, hpl] at hq
          simp only [Prod.mk.injEq, and_true] at hq
          exact hq
        obtain ⟨rfl, rfl⟩ := hab
        subst hT
        subst hE
        clear hL hLr hT2 hE2 hpl hS hne h
        go_enter Try.func5, Try.ntmps5
        go_wp2_with fail
        refine (symA s a x L 0 _ H1.out H2.out).mono ?_
        rintro e w1 ⟨rfl, hb1⟩
        have k1 := ((Blk.new w 24 #[.int .i64 a, .int .i64 x]).alloc (.cells #[.int .i64 a, .int .i64 x] 24)).after hb1
        have k2 := (Blk.new (w.alloc (.cells #[.int .i64 a, .int .i64 x] 24)) 24 #[.int .i64 a, .int .i64 x]).after hb1
        have x0 : w1.cell? ⟨w.heap.size, 0, none⟩ = some (.int .i64 a) := k1.cell 0
        have x1 : w1.cell? ⟨w.heap.size, 1, none⟩ = some (.int .i64 x) := k1.cell 1
        have y0 : w1.cell? ⟨w.heap.size + 1, 0, none⟩ = some (.int .i64 a) := by simpa using k2.cell 0
        have y1 : w1.cell? ⟨w.heap.size + 1, 1, none⟩ = some (.int .i64 x) := by simpa using k2.cell 1
        have K1 := Lib.hid k1
        have K2 := Lib.hid k2
        clear k1 k2
        go_wp2_with fail
        refine (symA s a x L _ _ H3.out H4.out).mono ?_
        rintro e w2 ⟨rfl, hb2⟩
        have k1 := K1.out.after hb2
        have k2 := K2.out.after hb2
        have x0 : w2.cell? ⟨w.heap.size, 0, none⟩ = some (.int .i64 a) := k1.cell 0
        have x1 : w2.cell? ⟨w.heap.size, 1, none⟩ = some (.int .i64 x) := k1.cell 1
        have y0 : w2.cell? ⟨w.heap.size + 1, 0, none⟩ = some (.int .i64 a) := by simpa using k2.cell 0
        have y1 : w2.cell? ⟨w.heap.size + 1, 1, none⟩ = some (.int .i64 x) := by simpa using k2.cell 1
        have K3 := Lib.hid k1
        have K4 := Lib.hid k2
        clear k1 k2
        go_wp2_with (go_at_call 17; refine (spot_any _ _ _).mono ?_; rintro e w' ⟨rfl, hw⟩; rw [hw]; clear hw)
        refine (placeA s a x L _ HP.out).mono ?_
        rintro e w3 ⟨rfl, hb3⟩
        have k1 := K3.out.after hb3
        have k2 := K4.out.after hb3
        have x0 : w3.cell? ⟨w.heap.size, 0, none⟩ = some (.int .i64 a) := k1.cell 0
        have x1 : w3.cell? ⟨w.heap.size, 1, none⟩ = some (.int .i64 x) := k1.cell 1
        have y0 : w3.cell? ⟨w.heap.size + 1, 0, none⟩ = some (.int .i64 a) := by simpa using k2.cell 0
        have y1 : w3.cell? ⟨w.heap.size + 1, 1, none⟩ = some (.int .i64 x) := by simpa using k2.cell 1
        have z3 : w.heap.size + 1 < w3.heap.size := by have := k2.lt; simpa using this
        have z4 : w.heap.size < w3.heap.size := k1.lt
        clear k1 k2
        go_wp2_with fail
        go_quiet ((go_at_call 17; exact Calls.quiet_of_same (spot_any _ _ _)))
        go_wp2_with (go_at_call 14; refine (works_any _).mono ?_; rintro e w5 ⟨rfl, hb5⟩)
        go_ret
        exact Ret.mk' rfl (by repeat (first | exact Below.refl _ _ | assumption | refine bel_drewN ?_ _ | refine Below.drew ?_ | refine bel_alloc ?_ _ | refine Below.setCell ?_ (by first | omega | (simp; done) | (simp; omega)) _ | refine bel_step ?_ (by assumption)))
      · have hTb : (L == T2) = false := by simpa using hT
        have hSb : (spotOf s a == spotOf s b) = true := by simpa using hS
        subst hE
        clear hL hLr hT2 hE2 hpl hS hne hT h
        go_enter Try.func5, Try.ntmps5
        go_wp2_with fail
        refine (symA s a x L 0 _ H1.out H2.out).mono ?_
        rintro e w1 ⟨rfl, hb1⟩
        have k1 := ((Blk.new w 24 #[.int .i64 a, .int .i64 x]).alloc (.cells #[.int .i64 b, .int .i64 y] 24)).after hb1
        have k2 := (Blk.new (w.alloc (.cells #[.int .i64 a, .int .i64 x] 24)) 24 #[.int .i64 b, .int .i64 y]).after hb1
        have x0 : w1.cell? ⟨w.heap.size, 0, none⟩ = some (.int .i64 a) := k1.cell 0
        have x1 : w1.cell? ⟨w.heap.size, 1, none⟩ = some (.int .i64 x) := k1.cell 1
        have y0 : w1.cell? ⟨w.heap.size + 1, 0, none⟩ = some (.int .i64 b) := by simpa using k2.cell 0
        have y1 : w1.cell? ⟨w.heap.size + 1, 1, none⟩ = some (.int .i64 y) := by simpa using k2.cell 1
        have K1 := Lib.hid k1
        have K2 := Lib.hid k2
        clear k1 k2
        go_wp2_with fail
        refine (symA s b y T2 _ _ H3.out H4.out).mono ?_
        rintro e w2 ⟨rfl, hb2⟩
        have k1 := K1.out.after hb2
        have k2 := K2.out.after hb2
        have x0 : w2.cell? ⟨w.heap.size, 0, none⟩ = some (.int .i64 a) := k1.cell 0
        have x1 : w2.cell? ⟨w.heap.size, 1, none⟩ = some (.int .i64 x) := k1.cell 1
        have y0 : w2.cell? ⟨w.heap.size + 1, 0, none⟩ = some (.int .i64 b) := by simpa using k2.cell 0
        have y1 : w2.cell? ⟨w.heap.size + 1, 1, none⟩ = some (.int .i64 y) := by simpa using k2.cell 1
        have K3 := Lib.hid k1
        have K4 := Lib.hid k2
        clear k1 k2
        go_wp2_with (go_at_call 17; refine (spot_any _ _ _).mono ?_; rintro e w' ⟨rfl, hw⟩; rw [hw]; clear hw)
        refine (placeA s a x L _ HP.out).mono ?_
        rintro e w3 ⟨rfl, hb3⟩
        have k1 := K3.out.after hb3
        have k2 := K4.out.after hb3
        have x0 : w3.cell? ⟨w.heap.size, 0, none⟩ = some (.int .i64 a) := k1.cell 0
        have x1 : w3.cell? ⟨w.heap.size, 1, none⟩ = some (.int .i64 x) := k1.cell 1
        have y0 : w3.cell? ⟨w.heap.size + 1, 0, none⟩ = some (.int .i64 b) := by simpa using k2.cell 0
        have y1 : w3.cell? ⟨w.heap.size + 1, 1, none⟩ = some (.int .i64 y) := by simpa using k2.cell 1
        have z3 : w.heap.size + 1 < w3.heap.size := by have := k2.lt; simpa using this
        have z4 : w.heap.size < w3.heap.size := k1.lt
        clear k1 k2
        go_wp2_with fail
        go_quiet ((go_at_call 17; exact Calls.quiet_of_same (spot_any _ _ _)))
        go_wp2_with (go_at_call 14; refine (works_any _).mono ?_; rintro e w5 ⟨rfl, hb5⟩)
        go_ret
        exact Ret.mk' rfl (by repeat (first | exact Below.refl _ _ | assumption | refine bel_drewN ?_ _ | refine Below.drew ?_ | refine bel_alloc ?_ _ | refine Below.setCell ?_ (by first | omega | (simp; done) | (simp; omega)) _ | refine bel_step ?_ (by assumption)))
    · have hSb : (spotOf s a == spotOf s b) = false := by simpa using hS
      subst hE
      clear hL hLr hT2 hE2 hpl hS hne h
      go_enter Try.func5, Try.ntmps5
      go_wp2_with fail
      refine (symA s a x L 0 _ H1.out H2.out).mono ?_
      rintro e w1 ⟨rfl, hb1⟩
      have k1 := ((Blk.new w 24 #[.int .i64 a, .int .i64 x]).alloc (.cells #[.int .i64 b, .int .i64 y] 24)).after hb1
      have k2 := (Blk.new (w.alloc (.cells #[.int .i64 a, .int .i64 x] 24)) 24 #[.int .i64 b, .int .i64 y]).after hb1
      have x0 : w1.cell? ⟨w.heap.size, 0, none⟩ = some (.int .i64 a) := k1.cell 0
      have x1 : w1.cell? ⟨w.heap.size, 1, none⟩ = some (.int .i64 x) := k1.cell 1
      have y0 : w1.cell? ⟨w.heap.size + 1, 0, none⟩ = some (.int .i64 b) := by simpa using k2.cell 0
      have y1 : w1.cell? ⟨w.heap.size + 1, 1, none⟩ = some (.int .i64 y) := by simpa using k2.cell 1
      have K1 := Lib.hid k1
      have K2 := Lib.hid k2
      clear k1 k2
      go_wp2_with fail
      refine (symA s b y T2 _ _ H3.out H4.out).mono ?_
      rintro e w2 ⟨rfl, hb2⟩
      have k1 := K1.out.after hb2
      have k2 := K2.out.after hb2
      have x0 : w2.cell? ⟨w.heap.size, 0, none⟩ = some (.int .i64 a) := k1.cell 0
      have x1 : w2.cell? ⟨w.heap.size, 1, none⟩ = some (.int .i64 x) := k1.cell 1
      have y0 : w2.cell? ⟨w.heap.size + 1, 0, none⟩ = some (.int .i64 b) := by simpa using k2.cell 0
      have y1 : w2.cell? ⟨w.heap.size + 1, 1, none⟩ = some (.int .i64 y) := by simpa using k2.cell 1
      have K3 := Lib.hid k1
      have K4 := Lib.hid k2
      clear k1 k2
      go_wp2_with (go_at_call 17; refine (spot_any _ _ _).mono ?_; rintro e w' ⟨rfl, hw⟩; rw [hw]; clear hw)
      refine (placeA s a x L _ HP.out).mono ?_
      rintro e w3 ⟨rfl, hb3⟩
      have k1 := K3.out.after hb3
      have k2 := K4.out.after hb3
      have x0 : w3.cell? ⟨w.heap.size, 0, none⟩ = some (.int .i64 a) := k1.cell 0
      have x1 : w3.cell? ⟨w.heap.size, 1, none⟩ = some (.int .i64 x) := k1.cell 1
      have y0 : w3.cell? ⟨w.heap.size + 1, 0, none⟩ = some (.int .i64 b) := by simpa using k2.cell 0
      have y1 : w3.cell? ⟨w.heap.size + 1, 1, none⟩ = some (.int .i64 y) := by simpa using k2.cell 1
      have z3 : w.heap.size + 1 < w3.heap.size := by have := k2.lt; simpa using this
      have z4 : w.heap.size < w3.heap.size := k1.lt
      clear k1 k2
      go_wp2_with fail
      go_quiet ((go_at_call 17; exact Calls.quiet_of_same (spot_any _ _ _)))
      go_wp2_with (go_at_call 14; refine (works_any _).mono ?_; rintro e w5 ⟨rfl, hb5⟩)
      go_ret
      exact Ret.mk' rfl (by repeat (first | exact Below.refl _ _ | assumption | refine bel_drewN ?_ _ | refine Below.drew ?_ | refine bel_alloc ?_ _ | refine Below.setCell ?_ (by first | omega | (simp; done) | (simp; omega)) _ | refine bel_step ?_ (by assumption)))
  · have hEb : (E2 == 0) = false := by simpa using hE
    clear hL hLr hT2 hE2 hpl hne hE h
    go_enter Try.func5, Try.ntmps5
    go_wp2_with fail
    refine (symA s a x L 0 _ H1.out H2.out).mono ?_
    rintro e w1 ⟨rfl, hb1⟩
    have k1 := ((Blk.new w 24 #[.int .i64 a, .int .i64 x]).alloc (.cells #[.int .i64 b, .int .i64 y] 24)).after hb1
    have k2 := (Blk.new (w.alloc (.cells #[.int .i64 a, .int .i64 x] 24)) 24 #[.int .i64 b, .int .i64 y]).after hb1
    have x0 : w1.cell? ⟨w.heap.size, 0, none⟩ = some (.int .i64 a) := k1.cell 0
    have x1 : w1.cell? ⟨w.heap.size, 1, none⟩ = some (.int .i64 x) := k1.cell 1
    have y0 : w1.cell? ⟨w.heap.size + 1, 0, none⟩ = some (.int .i64 b) := by simpa using k2.cell 0
    have y1 : w1.cell? ⟨w.heap.size + 1, 1, none⟩ = some (.int .i64 y) := by simpa using k2.cell 1
    have K1 := Lib.hid k1
    have K2 := Lib.hid k2
    clear k1 k2
    go_wp2_with fail
    refine (symA s b y T2 _ _ H3.out H4.out).mono ?_
    rintro e w2 ⟨rfl, hb2⟩
    have k1 := K1.out.after hb2
    have k2 := K2.out.after hb2
    have x0 : w2.cell? ⟨w.heap.size, 0, none⟩ = some (.int .i64 a) := k1.cell 0
    have x1 : w2.cell? ⟨w.heap.size, 1, none⟩ = some (.int .i64 x) := k1.cell 1
    have y0 : w2.cell? ⟨w.heap.size + 1, 0, none⟩ = some (.int .i64 b) := by simpa using k2.cell 0
    have y1 : w2.cell? ⟨w.heap.size + 1, 1, none⟩ = some (.int .i64 y) := by simpa using k2.cell 1
    have K3 := Lib.hid k1
    have K4 := Lib.hid k2
    clear k1 k2
    go_wp2_with (go_at_call 17; refine (spot_any _ _ _).mono ?_; rintro e w' ⟨rfl, hw⟩; rw [hw]; clear hw)
    refine (placeA s a x L _ HP.out).mono ?_
    rintro e w3 ⟨rfl, hb3⟩
    have k1 := K3.out.after hb3
    have k2 := K4.out.after hb3
    have x0 : w3.cell? ⟨w.heap.size, 0, none⟩ = some (.int .i64 a) := k1.cell 0
    have x1 : w3.cell? ⟨w.heap.size, 1, none⟩ = some (.int .i64 x) := k1.cell 1
    have y0 : w3.cell? ⟨w.heap.size + 1, 0, none⟩ = some (.int .i64 b) := by simpa using k2.cell 0
    have y1 : w3.cell? ⟨w.heap.size + 1, 1, none⟩ = some (.int .i64 y) := by simpa using k2.cell 1
    have z3 : w.heap.size + 1 < w3.heap.size := by have := k2.lt; simpa using this
    have z4 : w.heap.size < w3.heap.size := k1.lt
    clear k1 k2
    go_wp2_with fail
    go_quiet ((go_at_call 17; exact Calls.quiet_of_same (spot_any _ _ _)))
    go_wp2_with (go_at_call 14; refine (works_any _).mono ?_; rintro e w5 ⟨rfl, hb5⟩)
    go_ret
    exact Ret.mk' rfl (by repeat (first | exact Below.refl _ _ | assumption | refine bel_drewN ?_ _ | refine Below.drew ?_ | refine bel_alloc ?_ _ | refine Below.setCell ?_ (by first | omega | (simp; done) | (simp; omega)) _ | refine bel_step ?_ (by assumption)))

theorem apart_walk (s a x b y : Int) (w : World) : Calls Try.prog 5 #[.int .u8 s, .agg #[.int .i64 a, .int .i64 x], .agg #[.int .i64 b, .int .i64 y]] w (Ret (.bool true) w) := by
  by_cases h : symErr s a x = 0
  · exact apart_good s a x b y w h
  · exact apart_bad s a x b y w h
end Go.Proofs.Yteldgllgagjciaa
