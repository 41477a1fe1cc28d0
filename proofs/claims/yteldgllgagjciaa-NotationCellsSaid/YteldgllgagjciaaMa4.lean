/- markedAs of the program, in one system. -/
import Derived.Test.YteldgllgagjciaaMk4
import Derived.Test.YteldgllgagjciaaStP
namespace Go.Proofs.Yteldgllgagjciaa
open Go.RowKit
set_option maxHeartbeats 8000000
set_option maxRecDepth 100000
set_option linter.unusedVariables false
set_option linter.unusedSimpArgs false
attribute [local go_sem] mk_bs bs_size bs_toList bs_append bs_extract
attribute [local simp] run_cut run_cut_to run_cut_from run_add_bs
theorem markedAs_4 (c f r0 g0 h0 L : Int) (l : List UInt8) (w : World) (hc : 1 ≤ c ∧ c ≤ 14) (hf : 0 ≤ f ∧ f ≤ 18) (hL : 0 ≤ L ∧ L ≤ 15) :
    Calls Try.prog 51 #[(.iface 118 (.agg #[])), .agg #[.int .i64 c, .int .i64 f, .int .i64 r0, .int .i64 g0, .int .i64 h0], .string (bs l), .int .i64 L] w (MaPost 4 c f l L w) := by
  go_enter Try.func51, Try.ntmps51
  go_wp2_with fail
  go_loopw [] (fun wr => ∃ (r : Nat) (g h : Int), r ≤ 4 ∧ Below w.heap.size w wr ∧ Blk wr w.heap.size 40 #[.int .i64 c, .int .i64 f, .int .i64 r, .int .i64 g, .int .i64 h] ∧ Blk wr (w.heap.size + 1) 40 #[.int .i64 0, .int .i64 0, .int .i64 0, .int .i64 0, .int .i64 0] ∧ (∀ r' g h : Nat, r' < r → stM 4 c f l L r' g h = false))
    (fun wr => 4 - cellInt wr w.heap.size 2)
  case atStart => exact ⟨0, g0, h0, by omega, (by repeat (first | exact Below.refl _ _ | assumption | refine bel_drewN ?_ _ | refine Below.drew ?_ | refine bel_alloc ?_ _ | refine Below.setCell ?_ (by first | omega | (simp; done) | (simp; omega)) _ | refine bel_step ?_ (by assumption))), (Blk.new _ _ _).alloc _, by simpa using Blk.new (w.alloc (.cells #[.int .i64 c, .int .i64 f, .int .i64 0, .int .i64 g0, .int .i64 h0] 40)) 40 #[.int .i64 0, .int .i64 0, .int .i64 0, .int .i64 0, .int .i64 0], fun r' g h hr => by omega⟩
  case round =>
    obtain ⟨r, g, h, hr4, hbel, hblk, hzb, hno⟩ := hrel
    have q0 : wr.cell? ⟨w.heap.size, 0, none⟩ = some (.int .i64 c) := hblk.cell 0
    have f0 := hblk.frozen 0
    have q1 : wr.cell? ⟨w.heap.size, 1, none⟩ = some (.int .i64 f) := hblk.cell 1
    have f1 := hblk.frozen 1
    have q2 : wr.cell? ⟨w.heap.size, 2, none⟩ = some (.int .i64 r) := hblk.cell 2
    have f2 := hblk.frozen 2
    have q3 : wr.cell? ⟨w.heap.size, 3, none⟩ = some (.int .i64 g) := hblk.cell 3
    have f3 := hblk.frozen 3
    have q4 : wr.cell? ⟨w.heap.size, 4, none⟩ = some (.int .i64 h) := hblk.cell 4
    have f4 := hblk.frozen 4
    have z0 : wr.cell? ⟨w.heap.size + 1, 0, none⟩ = some (.int .i64 0) := hzb.cell 0
    have y0 := hzb.frozen 0
    have z1 : wr.cell? ⟨w.heap.size + 1, 1, none⟩ = some (.int .i64 0) := hzb.cell 1
    have y1 := hzb.frozen 1
    have z2 : wr.cell? ⟨w.heap.size + 1, 2, none⟩ = some (.int .i64 0) := hzb.cell 2
    have y2 := hzb.frozen 2
    have z3 : wr.cell? ⟨w.heap.size + 1, 3, none⟩ = some (.int .i64 0) := hzb.cell 3
    have y3 := hzb.frozen 3
    have z4 : wr.cell? ⟨w.heap.size + 1, 4, none⟩ = some (.int .i64 0) := hzb.cell 4
    have y4 := hzb.frozen 4
    have hlt : w.heap.size < wr.heap.size := hblk.lt
    have hlt1 : w.heap.size + 1 < wr.heap.size := hzb.lt
    have HB := Lib.hid hblk
    have HZ := Lib.hid hzb
    have HN := Lib.hid hno
    clear hblk hzb hno
    have QR := cellInt_eq q2
    by_cases hr3 : r ≤ 3
    · have hr3b : decide ((r : Int) ≤ 3) = true := decide_eq_true (by omega)
      go_wp2_with fail
      go_loopw [] (fun wi => ∃ (g : Nat) (h : Int), g ≤ 5 ∧ Below w.heap.size w wi ∧ Blk wi w.heap.size 40 #[.int .i64 c, .int .i64 f, .int .i64 r, .int .i64 g, .int .i64 h] ∧ Blk wi (w.heap.size + 1) 40 #[.int .i64 0, .int .i64 0, .int .i64 0, .int .i64 0, .int .i64 0] ∧ (∀ g' h : Nat, g' < g → stM 4 c f l L r g' h = false))
        (fun wi => 5 - cellInt wi w.heap.size 3)
      case atStart => exact ⟨0, h, by omega, (by repeat (first | exact Below.refl _ _ | assumption | refine bel_drewN ?_ _ | refine Below.drew ?_ | refine bel_alloc ?_ _ | refine Below.setCell ?_ (by first | omega | (simp; done) | (simp; omega)) _ | refine bel_step ?_ (by assumption))), HB.out.set_ 3 _, HZ.out.far (by simp) _, fun g' h hg => by omega⟩
      case round =>
        clear q0 q1 q2 q3 q4 z0 z1 z2 z3 z4 f0 f1 f2 f3 f4 y0 y1 y2 y3 y4 hlt hlt1 HB HZ
        obtain ⟨g, h, hg5, hbel2, hblk, hzb, hno⟩ := hrel
        have q0 : wr.cell? ⟨w.heap.size, 0, none⟩ = some (.int .i64 c) := hblk.cell 0
        have f0 := hblk.frozen 0
        have q1 : wr.cell? ⟨w.heap.size, 1, none⟩ = some (.int .i64 f) := hblk.cell 1
        have f1 := hblk.frozen 1
        have q2 : wr.cell? ⟨w.heap.size, 2, none⟩ = some (.int .i64 r) := hblk.cell 2
        have f2 := hblk.frozen 2
        have q3 : wr.cell? ⟨w.heap.size, 3, none⟩ = some (.int .i64 g) := hblk.cell 3
        have f3 := hblk.frozen 3
        have q4 : wr.cell? ⟨w.heap.size, 4, none⟩ = some (.int .i64 h) := hblk.cell 4
        have f4 := hblk.frozen 4
        have z0 : wr.cell? ⟨w.heap.size + 1, 0, none⟩ = some (.int .i64 0) := hzb.cell 0
        have y0 := hzb.frozen 0
        have z1 : wr.cell? ⟨w.heap.size + 1, 1, none⟩ = some (.int .i64 0) := hzb.cell 1
        have y1 := hzb.frozen 1
        have z2 : wr.cell? ⟨w.heap.size + 1, 2, none⟩ = some (.int .i64 0) := hzb.cell 2
        have y2 := hzb.frozen 2
        have z3 : wr.cell? ⟨w.heap.size + 1, 3, none⟩ = some (.int .i64 0) := hzb.cell 3
        have y3 := hzb.frozen 3
        have z4 : wr.cell? ⟨w.heap.size + 1, 4, none⟩ = some (.int .i64 0) := hzb.cell 4
        have y4 := hzb.frozen 4
        have hlt : w.heap.size < wr.heap.size := hblk.lt
        have hlt1 : w.heap.size + 1 < wr.heap.size := hzb.lt
        have HB := Lib.hid hblk
        have HZ := Lib.hid hzb
        have HN2 := Lib.hid hno
        clear hblk hzb hno
        have QG := cellInt_eq q3
        by_cases hg4 : g ≤ 4
        · have hg4b : decide ((g : Int) ≤ 4) = true := decide_eq_true (by omega)
          go_wp2_with fail
          go_loopw [] (fun wj => ∃ (h : Nat), h ≤ L + 1 ∧ Below w.heap.size w wj ∧ Blk wj w.heap.size 40 #[.int .i64 c, .int .i64 f, .int .i64 r, .int .i64 g, .int .i64 h] ∧ Blk wj (w.heap.size + 1) 40 #[.int .i64 0, .int .i64 0, .int .i64 0, .int .i64 0, .int .i64 0] ∧ (∀ h' : Nat, h' < h → stM 4 c f l L r g h' = false))
            (fun wj => (L + 1).toNat - cellInt wj w.heap.size 4)
          case atStart => exact ⟨0, by omega, (by repeat (first | exact Below.refl _ _ | assumption | refine bel_drewN ?_ _ | refine Below.drew ?_ | refine bel_alloc ?_ _ | refine Below.setCell ?_ (by first | omega | (simp; done) | (simp; omega)) _ | refine bel_step ?_ (by assumption))), HB.out.set_ 4 _, HZ.out.far (by simp) _, fun h' hh => by omega⟩
          case round =>
            clear q0 q1 q2 q3 q4 z0 z1 z2 z3 z4 f0 f1 f2 f3 f4 y0 y1 y2 y3 y4 hlt hlt1 HB HZ
            obtain ⟨h, hh5, hbel3, hblk, hzb, hno⟩ := hrel
            have q0 : wr.cell? ⟨w.heap.size, 0, none⟩ = some (.int .i64 c) := hblk.cell 0
            have f0 := hblk.frozen 0
            have q1 : wr.cell? ⟨w.heap.size, 1, none⟩ = some (.int .i64 f) := hblk.cell 1
            have f1 := hblk.frozen 1
            have q2 : wr.cell? ⟨w.heap.size, 2, none⟩ = some (.int .i64 r) := hblk.cell 2
            have f2 := hblk.frozen 2
            have q3 : wr.cell? ⟨w.heap.size, 3, none⟩ = some (.int .i64 g) := hblk.cell 3
            have f3 := hblk.frozen 3
            have q4 : wr.cell? ⟨w.heap.size, 4, none⟩ = some (.int .i64 h) := hblk.cell 4
            have f4 := hblk.frozen 4
            have z0 : wr.cell? ⟨w.heap.size + 1, 0, none⟩ = some (.int .i64 0) := hzb.cell 0
            have y0 := hzb.frozen 0
            have z1 : wr.cell? ⟨w.heap.size + 1, 1, none⟩ = some (.int .i64 0) := hzb.cell 1
            have y1 := hzb.frozen 1
            have z2 : wr.cell? ⟨w.heap.size + 1, 2, none⟩ = some (.int .i64 0) := hzb.cell 2
            have y2 := hzb.frozen 2
            have z3 : wr.cell? ⟨w.heap.size + 1, 3, none⟩ = some (.int .i64 0) := hzb.cell 3
            have y3 := hzb.frozen 3
            have z4 : wr.cell? ⟨w.heap.size + 1, 4, none⟩ = some (.int .i64 0) := hzb.cell 4
            have y4 := hzb.frozen 4
            have hlt : w.heap.size < wr.heap.size := hblk.lt
            have hlt1 : w.heap.size + 1 < wr.heap.size := hzb.lt
            have HB := Lib.hid hblk
            have HZ := Lib.hid hzb
            have HN3 := Lib.hid hno
            clear hblk hzb hno
            have QH := cellInt_eq q4
            by_cases hhL : (h : Int) ≤ L
            · by_cases hbr : 0 < h ∧ f = 0
              · go_wp2_with fail
                have K1 := HB.out.set_ 3 (.int .i64 (g + 1))
                refine ⟨⟨g + 1, h, by omega, (by repeat (first | exact Below.refl _ _ | assumption | refine bel_drewN ?_ _ | refine Below.drew ?_ | refine bel_alloc ?_ _ | refine Below.setCell ?_ (by first | omega | (simp; done) | (simp; omega)) _ | refine bel_step ?_ (by assumption))), by simpa using K1, HZ.out.far (by simp) _, fun g' h' hg => ?_⟩, ?_⟩
                · by_cases hgg : g' < g
                  · exact HN2.out g' h' hgg
                  · obtain rfl : g' = g := by omega
                    by_cases hhh : h' < h
                    · exact HN3.out h' hhh
                    · exact stM_hf ⟨by omega, hbr.2⟩
                · rw [cellInt_eq (K1.cell 3), QG]; simp; omega
              · have hno : ¬ (0 < (h : Int) ∧ f = 0) := fun x => hbr ⟨by omega, x.2⟩
                cases hok : cellOk 4 c f r g h L
                · have hbad : stM 4 c f l L r g h = false := by unfold stM; simp [hok]
                  have HBAD := Lib.hid hbad
                  clear hbad
                  go_wp2_with (
                    go_at_call 45
                    refine (pcell_4 _ _ _ _ _ _ _ hc hf (by omega) (by omega) (by omega)).mono ?_
                    rintro e w1 ⟨rfl, hb1⟩
                    have KB := Lib.hid (HB.out.after hb1)
                    have KZ := Lib.hid (HZ.out.after hb1)
                    have x0 : w1.cell? ⟨w.heap.size, 0, none⟩ = some (.int .i64 c) := KB.out.cell 0
                    have e0 := KB.out.frozen 0
                    have v0 : w1.cell? ⟨w.heap.size + 1, 0, none⟩ = some (.int .i64 0) := KZ.out.cell 0
                    have n0 := KZ.out.frozen 0
                    have x1 : w1.cell? ⟨w.heap.size, 1, none⟩ = some (.int .i64 f) := KB.out.cell 1
                    have e1 := KB.out.frozen 1
                    have v1 : w1.cell? ⟨w.heap.size + 1, 1, none⟩ = some (.int .i64 0) := KZ.out.cell 1
                    have n1 := KZ.out.frozen 1
                    have x2 : w1.cell? ⟨w.heap.size, 2, none⟩ = some (.int .i64 r) := KB.out.cell 2
                    have e2 := KB.out.frozen 2
                    have v2 : w1.cell? ⟨w.heap.size + 1, 2, none⟩ = some (.int .i64 0) := KZ.out.cell 2
                    have n2 := KZ.out.frozen 2
                    have x3 : w1.cell? ⟨w.heap.size, 3, none⟩ = some (.int .i64 g) := KB.out.cell 3
                    have e3 := KB.out.frozen 3
                    have v3 : w1.cell? ⟨w.heap.size + 1, 3, none⟩ = some (.int .i64 0) := KZ.out.cell 3
                    have n3 := KZ.out.frozen 3
                    have x4 : w1.cell? ⟨w.heap.size, 4, none⟩ = some (.int .i64 h) := KB.out.cell 4
                    have e4 := KB.out.frozen 4
                    have v4 : w1.cell? ⟨w.heap.size + 1, 4, none⟩ = some (.int .i64 0) := KZ.out.cell 4
                    have n4 := KZ.out.frozen 4
                    have hlt2 : w.heap.size < w1.heap.size := KB.out.lt
                    have hlt3 : w.heap.size + 1 < w1.heap.size := KZ.out.lt)
                  all_goals
                    have K1 := KB.out.set_ 4 (.int .i64 (h + 1))
                    go_roundw
                    case rel =>
                      refine ⟨h + 1, by omega, (by repeat (first | exact Below.refl _ _ | assumption | refine bel_drewN ?_ _ | refine Below.drew ?_ | refine bel_alloc ?_ _ | refine Below.setCell ?_ (by first | omega | (simp; done) | (simp; omega)) _ | refine bel_step ?_ (by assumption))), by simpa using K1, KZ.out.far (by simp) _, fun h' hg => ?_⟩
                      by_cases hgg : h' < h
                      · exact HN3.out h' hgg
                      · obtain rfl : h' = h := by omega
                        exact HBAD.out
                    case measure => rw [cellInt_eq (K1.cell 4), QH]; simp; omega
                · by_cases heq : cellS 4 c f r g h L = l
                  · have hgood : stM 4 c f l L r g h = true := by
                      unfold stM; simp [hok, heq]; exact ⟨hr3, hg4, hhL, by by_cases hz : h = 0; exact .inl hz; exact .inr fun b => hbr ⟨by omega, b⟩⟩
                    have HG := Lib.hid hgood
                    clear hgood
                    go_wp2_with (
                      go_at_call 45
                      refine (pcell_4 _ _ _ _ _ _ _ hc hf (by omega) (by omega) (by omega)).mono ?_
                      rintro e w1 ⟨rfl, hb1⟩
                      have KB := Lib.hid (HB.out.after hb1)
                      have KZ := Lib.hid (HZ.out.after hb1)
                      have x0 : w1.cell? ⟨w.heap.size, 0, none⟩ = some (.int .i64 c) := KB.out.cell 0
                      have e0 := KB.out.frozen 0
                      have v0 : w1.cell? ⟨w.heap.size + 1, 0, none⟩ = some (.int .i64 0) := KZ.out.cell 0
                      have n0 := KZ.out.frozen 0
                      have x1 : w1.cell? ⟨w.heap.size, 1, none⟩ = some (.int .i64 f) := KB.out.cell 1
                      have e1 := KB.out.frozen 1
                      have v1 : w1.cell? ⟨w.heap.size + 1, 1, none⟩ = some (.int .i64 0) := KZ.out.cell 1
                      have n1 := KZ.out.frozen 1
                      have x2 : w1.cell? ⟨w.heap.size, 2, none⟩ = some (.int .i64 r) := KB.out.cell 2
                      have e2 := KB.out.frozen 2
                      have v2 : w1.cell? ⟨w.heap.size + 1, 2, none⟩ = some (.int .i64 0) := KZ.out.cell 2
                      have n2 := KZ.out.frozen 2
                      have x3 : w1.cell? ⟨w.heap.size, 3, none⟩ = some (.int .i64 g) := KB.out.cell 3
                      have e3 := KB.out.frozen 3
                      have v3 : w1.cell? ⟨w.heap.size + 1, 3, none⟩ = some (.int .i64 0) := KZ.out.cell 3
                      have n3 := KZ.out.frozen 3
                      have x4 : w1.cell? ⟨w.heap.size, 4, none⟩ = some (.int .i64 h) := KB.out.cell 4
                      have e4 := KB.out.frozen 4
                      have v4 : w1.cell? ⟨w.heap.size + 1, 4, none⟩ = some (.int .i64 0) := KZ.out.cell 4
                      have n4 := KZ.out.frozen 4
                      have hlt2 : w.heap.size < w1.heap.size := KB.out.lt
                      have hlt3 : w.heap.size + 1 < w1.heap.size := KZ.out.lt)
                    all_goals
                      have K5 := ((((KZ.out.set_ 0 (.int .i64 c)).set_ 1 (.int .i64 f)).set_ 2 (.int .i64 r)).set_ 3 (.int .i64 g)).set_ 4 (.int .i64 h)
                      have HK := Lib.hid K5
                      refine bodyPost_ret (v := .tuple #[.agg #[.int .i64 c, .int .i64 f, .int .i64 r, .int .i64 g, .int .i64 h], .bool true]) ?_ rfl ⟨(by repeat (first | exact Below.refl _ _ | assumption | refine bel_drewN ?_ _ | refine Below.drew ?_ | refine bel_alloc ?_ _ | refine Below.setCell ?_ (by first | omega | (simp; done) | (simp; omega)) _ | refine bel_step ?_ (by assumption))), .inl ⟨r, g, h, HG.out, rfl⟩⟩
                      clear HK
                      generalize ((((w1.setCell ⟨w.heap.size + 1, 0, none⟩ (.int .i64 c)).setCell ⟨w.heap.size + 1, 1, none⟩ (.int .i64 f)).setCell ⟨w.heap.size + 1, 2, none⟩ (.int .i64 r)).setCell ⟨w.heap.size + 1, 3, none⟩ (.int .i64 g)).setCell ⟨w.heap.size + 1, 4, none⟩ (.int .i64 h) = wf at K5 ⊢
                      have t0 : wf.cell? ⟨w.heap.size + 1, 0, none⟩ = some (.int .i64 c) := K5.cell 0
                      have t1 : wf.cell? ⟨w.heap.size + 1, 1, none⟩ = some (.int .i64 f) := K5.cell 1
                      have t2 : wf.cell? ⟨w.heap.size + 1, 2, none⟩ = some (.int .i64 r) := K5.cell 2
                      have t3 : wf.cell? ⟨w.heap.size + 1, 3, none⟩ = some (.int .i64 g) := K5.cell 3
                      have t4 : wf.cell? ⟨w.heap.size + 1, 4, none⟩ = some (.int .i64 h) := K5.cell 4
                      simp [results, Try.results51, go_sem, t0, t1, t2, t3, t4]
                  · have hbad : stM 4 c f l L r g h = false := by unfold stM; simp [hok, heq]
                    have HBAD := Lib.hid hbad
                    clear hbad
                    have heq2 : (cellS 4 c f r g h L == l) = false := by simp [heq]
                    go_wp2_with (
                      go_at_call 45
                      refine (pcell_4 _ _ _ _ _ _ _ hc hf (by omega) (by omega) (by omega)).mono ?_
                      rintro e w1 ⟨rfl, hb1⟩
                      have KB := Lib.hid (HB.out.after hb1)
                      have KZ := Lib.hid (HZ.out.after hb1)
                      have x0 : w1.cell? ⟨w.heap.size, 0, none⟩ = some (.int .i64 c) := KB.out.cell 0
                      have e0 := KB.out.frozen 0
                      have v0 : w1.cell? ⟨w.heap.size + 1, 0, none⟩ = some (.int .i64 0) := KZ.out.cell 0
                      have n0 := KZ.out.frozen 0
                      have x1 : w1.cell? ⟨w.heap.size, 1, none⟩ = some (.int .i64 f) := KB.out.cell 1
                      have e1 := KB.out.frozen 1
                      have v1 : w1.cell? ⟨w.heap.size + 1, 1, none⟩ = some (.int .i64 0) := KZ.out.cell 1
                      have n1 := KZ.out.frozen 1
                      have x2 : w1.cell? ⟨w.heap.size, 2, none⟩ = some (.int .i64 r) := KB.out.cell 2
                      have e2 := KB.out.frozen 2
                      have v2 : w1.cell? ⟨w.heap.size + 1, 2, none⟩ = some (.int .i64 0) := KZ.out.cell 2
                      have n2 := KZ.out.frozen 2
                      have x3 : w1.cell? ⟨w.heap.size, 3, none⟩ = some (.int .i64 g) := KB.out.cell 3
                      have e3 := KB.out.frozen 3
                      have v3 : w1.cell? ⟨w.heap.size + 1, 3, none⟩ = some (.int .i64 0) := KZ.out.cell 3
                      have n3 := KZ.out.frozen 3
                      have x4 : w1.cell? ⟨w.heap.size, 4, none⟩ = some (.int .i64 h) := KB.out.cell 4
                      have e4 := KB.out.frozen 4
                      have v4 : w1.cell? ⟨w.heap.size + 1, 4, none⟩ = some (.int .i64 0) := KZ.out.cell 4
                      have n4 := KZ.out.frozen 4
                      have hlt2 : w.heap.size < w1.heap.size := KB.out.lt
                      have hlt3 : w.heap.size + 1 < w1.heap.size := KZ.out.lt)
                    all_goals
                      have K1 := KB.out.set_ 4 (.int .i64 (h + 1))
                      go_roundw
                      case rel =>
                        refine ⟨h + 1, by omega, (by repeat (first | exact Below.refl _ _ | assumption | refine bel_drewN ?_ _ | refine Below.drew ?_ | refine bel_alloc ?_ _ | refine Below.setCell ?_ (by first | omega | (simp; done) | (simp; omega)) _ | refine bel_step ?_ (by assumption))), by simpa using K1, KZ.out.far (by simp) _, fun h' hg => ?_⟩
                        by_cases hgg : h' < h
                        · exact HN3.out h' hgg
                        · obtain rfl : h' = h := by omega
                          exact HBAD.out
                      case measure => rw [cellInt_eq (K1.cell 4), QH]; simp; omega
            · go_wp2_with fail
              have K1 := HB.out.set_ 3 (.int .i64 (g + 1))
              refine ⟨⟨g + 1, h, by omega, (by repeat (first | exact Below.refl _ _ | assumption | refine bel_drewN ?_ _ | refine Below.drew ?_ | refine bel_alloc ?_ _ | refine Below.setCell ?_ (by first | omega | (simp; done) | (simp; omega)) _ | refine bel_step ?_ (by assumption))), by simpa using K1, HZ.out.far (by simp) _, fun g' h' hg => ?_⟩, ?_⟩
              · by_cases hgg : g' < g
                · exact HN2.out g' h' hgg
                · obtain rfl : g' = g := by omega
                  by_cases hhh : h' < h
                  · exact HN3.out h' hhh
                  · exact stM_hL (by omega)
              · rw [cellInt_eq (K1.cell 3), QG]; simp; omega
        · go_wp2_with fail
          have K1 := HB.out.set_ 2 (.int .i64 (r + 1))
          refine ⟨⟨r + 1, g, h, by omega, (by repeat (first | exact Below.refl _ _ | assumption | refine bel_drewN ?_ _ | refine Below.drew ?_ | refine bel_alloc ?_ _ | refine Below.setCell ?_ (by first | omega | (simp; done) | (simp; omega)) _ | refine bel_step ?_ (by assumption))), by simpa using K1, HZ.out.far (by simp) _, fun r' g' h' hg => ?_⟩, ?_⟩
          · by_cases hgg : r' < r
            · exact HN.out r' g' h' hgg
            · obtain rfl : r' = r := by omega
              by_cases hhh : g' < g
              · exact HN2.out g' h' hhh
              · exact stM_g (by omega)
          · rw [cellInt_eq (K1.cell 2), QR]; simp; omega
    · go_wp2_with fail
      have K5 := ((((HZ.out.set_ 0 (.int .i64 0)).set_ 1 (.int .i64 0)).set_ 2 (.int .i64 0)).set_ 3 (.int .i64 0)).set_ 4 (.int .i64 0)
      refine bodyPost_ret (v := .tuple #[.agg #[.int .i64 0, .int .i64 0, .int .i64 0, .int .i64 0, .int .i64 0], .bool false]) ?_ rfl ⟨(by repeat (first | exact Below.refl _ _ | assumption | refine bel_drewN ?_ _ | refine Below.drew ?_ | refine bel_alloc ?_ _ | refine Below.setCell ?_ (by first | omega | (simp; done) | (simp; omega)) _ | refine bel_step ?_ (by assumption))), .inr ⟨fun r' g' h' => ?_, rfl⟩⟩
      · generalize ((((wr.setCell ⟨w.heap.size + 1, 0, none⟩ (.int .i64 0)).setCell ⟨w.heap.size + 1, 1, none⟩ (.int .i64 0)).setCell ⟨w.heap.size + 1, 2, none⟩ (.int .i64 0)).setCell ⟨w.heap.size + 1, 3, none⟩ (.int .i64 0)).setCell ⟨w.heap.size + 1, 4, none⟩ (.int .i64 0) = wf at K5 ⊢
        have t0 : wf.cell? ⟨w.heap.size + 1, 0, none⟩ = some (.int .i64 0) := K5.cell 0
        have t1 : wf.cell? ⟨w.heap.size + 1, 1, none⟩ = some (.int .i64 0) := K5.cell 1
        have t2 : wf.cell? ⟨w.heap.size + 1, 2, none⟩ = some (.int .i64 0) := K5.cell 2
        have t3 : wf.cell? ⟨w.heap.size + 1, 3, none⟩ = some (.int .i64 0) := K5.cell 3
        have t4 : wf.cell? ⟨w.heap.size + 1, 4, none⟩ = some (.int .i64 0) := K5.cell 4
        simp [results, Try.results51, go_sem, t0, t1, t2, t3, t4]
      by_cases hhh : r' < r
      · exact HN.out r' g' h' hhh
      · exact stM_r (by omega)
end Go.Proofs.Yteldgllgagjciaa
