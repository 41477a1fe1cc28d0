/- ParseCell of the reference. -/
import Derived.Test.YteldgllgagjciaaRPcP
import Derived.Test.YteldgllgagjciaaRPlace
import Derived.Test.YteldgllgagjciaaRCell3
namespace Go.Proofs.Yteldgllgagjciaa
open Go.RowKit
set_option maxHeartbeats 8000000
set_option maxRecDepth 100000
set_option linter.unusedVariables false
set_option linter.unusedSimpArgs false
attribute [local go_sem] mk_bs bs_size bs_toList bs_append bs_extract
attribute [local simp] run_cut run_cut_to run_cut_from run_add_bs
def NoN (s crs L : Int) (l : List UInt8) (n : Nat) : Prop := ∀ c f r g h : Nat, pcOk s crs L l c f r g h → n ≤ (rS s c f).length
def NoI (s c f : Int) (l : List UInt8) (L : Int) (i : Nat) : Prop := ∀ r g h : Nat, r ≤ 3 → g ≤ 4 → r + 4 * g + 20 * h < i → stM s c f l L r g h = false
theorem NoN.start {s crs L : Int} {l : List UInt8} (hsp : spotErr s crs = 0) : NoN s crs L l 1 := fun c f r g h a => (pcOk_sym hsp a).1
theorem NoI.start {s c f : Int} {l : List UInt8} {L : Int} : NoI s c f l L 0 := fun r g h _ _ k => by omega
theorem NoI.step {s c f : Int} {l : List UInt8} {L : Int} {i : Nat} (h : NoI s c f l L i) (hn : stM s c f l L (i % 4) (i / 4 % 5) (i / 20) = false) : NoI s c f l L (i + 1) := fun r g k hr hg hk => by
  by_cases e : r + 4 * g + 20 * k < i
  · exact h r g k hr hg e
  · have e1 : i % 4 = r := by omega
    have e2 : i / 4 % 5 = g := by omega
    have e3 : i / 20 = k := by omega
    rw [e1, e2, e3] at hn
    exact hn
theorem NoN.skip {s crs L : Int} {l : List UInt8} {n : Nat} (hsp : spotErr s crs = 0) (h : NoN s crs L l n) (hp : placeOf s crs (cut l 0 n) = (0, 0, 4)) : NoN s crs L l (n + 1) :=
  pc_step hsp h fun c f r g k e => by
    have : cut l 0 n = l.take n := by simp [cut]
    rw [this] at hp
    rw [hp] at e
    simp at e
theorem NoN.step {s crs L : Int} {l : List UInt8} {n c f N : Nat} (hsp : spotErr s crs = 0) (h : NoN s crs L l n) (hp : placeOf s crs (cut l 0 n) = ((c : Int), (f : Int), 0)) (hi : NoI s c f l L N) (hN : (N : Int) = 20 * (L + 1)) : NoN s crs L l (n + 1) :=
  pc_step hsp h fun c' f' r g k e a => by
    have : cut l 0 n = l.take n := by simp [cut]
    rw [this] at hp
    rw [hp] at e
    simp only [Prod.mk.injEq, Int.ofNat_inj, and_true] at e
    obtain ⟨rfl, rfl⟩ := e
    have hm := a.2.2.2
    obtain ⟨x, _, _⟩ := stM_ok hm
    rw [hi r g k x.1 x.2.1 (by omega)] at hm
    cases hm
theorem NoN.done {s crs L : Int} {l : List UInt8} (hsp : spotErr s crs = 0) (h : NoN s crs L l (l.length + 1)) : NoC s crs L l 15 := fun c f r g k _ a => by
  have := h c f r g k a
  have := (pcOk_sym hsp a).2.1
  omega
theorem rparse_sys (s crs L : Int) (l : List UInt8) (w : World) (h : spotErr s crs ≠ 0) :
    Calls Try.prog 25 #[.int .u8 s, .int .i64 crs, .string (bs l), .int .i64 L] w (Ret (pcR s crs L l) w) := by
  have HR := Lib.hid (pc_bad (L := L) (l := l) h)
  have hb2 : (spotErr s crs == 0) = false := by simpa using h
  clear h
  go_enter Try.func25, Try.ntmps25
  go_wp2_with (go_at_call 41; refine (rspot_any _ _ _).mono ?_; rintro e w' ⟨rfl, hw⟩; rw [hw]; clear hw)
  go_returns
  exact Ret.mk' (by rw [← HR.out]; rfl) (by repeat (first | exact Below.refl _ _ | assumption | refine bel_drewN ?_ _ | refine Below.drew ?_ | refine bel_alloc ?_ _ | refine Below.setCell ?_ (by first | omega | (simp; done) | (simp; omega)) _ | refine bel_step ?_ (by assumption)))
theorem rparse_hold (s crs L : Int) (l : List UInt8) (w : World) (h : spotErr s crs = 0) (hL : L < 0 ∨ 15 < L) :
    Calls Try.prog 25 #[.int .u8 s, .int .i64 crs, .string (bs l), .int .i64 L] w (Ret (pcR s crs L l) w) := by
  have HR := Lib.hid (pc_hold (l := l) h hL)
  by_cases h1 : L < 0
  · clear hL
    go_enter Try.func25, Try.ntmps25
    go_wp2_with (go_at_call 41; refine (rspot_any _ _ _).mono ?_; rintro e w' ⟨rfl, hw⟩; rw [hw]; clear hw)
    go_returns
    exact Ret.mk' (by rw [← HR.out]; rfl) (by repeat (first | exact Below.refl _ _ | assumption | refine bel_drewN ?_ _ | refine Below.drew ?_ | refine bel_alloc ?_ _ | refine Below.setCell ?_ (by first | omega | (simp; done) | (simp; omega)) _ | refine bel_step ?_ (by assumption)))
  · have h2 : 15 < L := by omega
    clear hL
    go_enter Try.func25, Try.ntmps25
    go_wp2_with (go_at_call 41; refine (rspot_any _ _ _).mono ?_; rintro e w' ⟨rfl, hw⟩; rw [hw]; clear hw)
    go_returns
    exact Ret.mk' (by rw [← HR.out]; rfl) (by repeat (first | exact Below.refl _ _ | assumption | refine bel_drewN ?_ _ | refine Below.drew ?_ | refine bel_alloc ?_ _ | refine Below.setCell ?_ (by first | omega | (simp; done) | (simp; omega)) _ | refine bel_step ?_ (by assumption)))
theorem rparse_ok (s crs L : Int) (l : List UInt8) (w : World) (h : spotErr s crs = 0) (hL : 0 ≤ L ∧ L ≤ 15) (hlen : l.length ≤ 64) :
    Calls Try.prog 25 #[.int .u8 s, .int .i64 crs, .string (bs l), .int .i64 L] w (Ret (pcR s crs L l) w) := by
  have HE := Lib.hid h
  have HS := Lib.hid (spotErr_sys h)
  have n5 : ¬ L < 0 := by omega
  have n6 : ¬ 15 < L := by omega
  obtain ⟨N, hN⟩ : ∃ N : Nat, (N : Int) = 20 * (L + 1) := ⟨(20 * (L + 1)).toNat, by omega⟩
  have HN := Lib.hid hN
  have hN1 : N ≤ 320 := by omega
  clear hN
  go_enter Try.func25, Try.ntmps25
  go_wp2_with (go_at_call 41; refine (rspot_any _ _ _).mono ?_; rintro e w' ⟨rfl, hw⟩; rw [hw]; clear hw)
  clear h
  go_loopw [11] (fun v wr => ∃ n : Nat, 1 ≤ n ∧ n ≤ l.length + 1 ∧ v = .int .i64 n ∧ NoN s crs L l n ∧ Below w.heap.size w wr ∧ Blk wr w.heap.size 40 #[.int .i64 0, .int .i64 0, .int .i64 0, .int .i64 0, .int .i64 0])
    (fun v _ => l.length + 1 - (intOf v).toNat)
  case atStart => exact ⟨1, by omega, by omega, rfl, NoN.start HE.out, (by repeat (first | exact Below.refl _ _ | assumption | refine bel_drewN ?_ _ | refine Below.drew ?_ | refine bel_alloc ?_ _ | refine Below.setCell ?_ (by first | omega | (simp; done) | (simp; omega)) _ | refine bel_step ?_ (by assumption))), Blk.new _ _ _⟩
  case round =>
    obtain ⟨n, hn1, hn2, rfl, hsc, hbel, hblk⟩ := hrel
    have HNN := Lib.hid hsc
    have HB := Lib.hid hblk
    have hlt : w.heap.size < wr.heap.size := hblk.lt
    have q0 : wr.cell? ⟨w.heap.size, 0, none⟩ = some (.int .i64 0) := hblk.cell 0
    have qf0 := hblk.frozen 0
    have q1 : wr.cell? ⟨w.heap.size, 1, none⟩ = some (.int .i64 0) := hblk.cell 1
    have qf1 := hblk.frozen 1
    have q2 : wr.cell? ⟨w.heap.size, 2, none⟩ = some (.int .i64 0) := hblk.cell 2
    have qf2 := hblk.frozen 2
    have q3 : wr.cell? ⟨w.heap.size, 3, none⟩ = some (.int .i64 0) := hblk.cell 3
    have qf3 := hblk.frozen 3
    have q4 : wr.cell? ⟨w.heap.size, 4, none⟩ = some (.int .i64 0) := hblk.cell 4
    have qf4 := hblk.frozen 4
    clear hsc hblk
    by_cases hle : n ≤ l.length
    · rcases placeOf_cases (cut l 0 n) HE.out with ⟨c, f, hp, hc, hf, hst, hsym⟩ | hp
      · have hpl := fun w => rplace_any s crs (cut l 0 n) w
        unfold placeV at hpl
        simp only [hp] at hpl
        have HP := Lib.hid hpl
        have HPO := Lib.hid hp
        have HST := Lib.hid hst
        have hci : 1 ≤ (c : Int) ∧ (c : Int) ≤ 14 := by omega
        have hfi : 0 ≤ (f : Int) ∧ (f : Int) ≤ 18 := by omega
        clear hpl hp hst hsym q0 q1 q2 q3 q4 qf0 qf1 qf2 qf3 qf4
        go_wp2_with (go_at_call 16; refine (HP.out _).mono ?_; rintro e w1 ⟨rfl, hb1⟩; have K1 := Lib.hid (HB.out.after hb1); have hlt1 : w.heap.size < w1.heap.size := K1.out.lt)
        go_loopw [14] (fun v wi => ∃ i : Nat, i ≤ N ∧ v = .int .i64 i ∧ NoI s c f l L i ∧ Below w.heap.size w wi ∧ Blk wi w.heap.size 40 #[.int .i64 0, .int .i64 0, .int .i64 0, .int .i64 0, .int .i64 0] ∧ Blk wi w1.heap.size 24 #[.int .i64 c, .int .i64 f])
          (fun v _ => N - (intOf v).toNat)
        case atStart => exact ⟨0, by omega, rfl, NoI.start, (by repeat (first | exact Below.refl _ _ | assumption | refine bel_drewN ?_ _ | refine Below.drew ?_ | refine bel_alloc ?_ _ | refine Below.setCell ?_ (by first | omega | (simp; done) | (simp; omega)) _ | refine bel_step ?_ (by assumption))), K1.out.alloc _, Blk.new _ _ _⟩
        case round =>
          obtain ⟨i, hi, rfl, hsi, hbel2, hblk, hpb⟩ := hrel
          have HI := Lib.hid hsi
          have HB2 := Lib.hid hblk
          have HPB := Lib.hid hpb
          have hlt2 : w.heap.size < wr.heap.size := hblk.lt
          have hlt3 : w1.heap.size < wr.heap.size := hpb.lt
          have q0 : wr.cell? ⟨w.heap.size, 0, none⟩ = some (.int .i64 0) := hblk.cell 0
          have qf0 := hblk.frozen 0
          have q1 : wr.cell? ⟨w.heap.size, 1, none⟩ = some (.int .i64 0) := hblk.cell 1
          have qf1 := hblk.frozen 1
          have q2 : wr.cell? ⟨w.heap.size, 2, none⟩ = some (.int .i64 0) := hblk.cell 2
          have qf2 := hblk.frozen 2
          have q3 : wr.cell? ⟨w.heap.size, 3, none⟩ = some (.int .i64 0) := hblk.cell 3
          have qf3 := hblk.frozen 3
          have q4 : wr.cell? ⟨w.heap.size, 4, none⟩ = some (.int .i64 0) := hblk.cell 4
          have qf4 := hblk.frozen 4
          have p0 : wr.cell? ⟨w1.heap.size, 0, none⟩ = some (.int .i64 c) := hpb.cell 0
          have pf0 := hpb.frozen 0
          have p1 : wr.cell? ⟨w1.heap.size, 1, none⟩ = some (.int .i64 f) := hpb.cell 1
          have pf1 := hpb.frozen 1
          clear hsi hblk hpb
          by_cases hil : i < N
          · have hilL : (i : Int) < 20 * (L + 1) := by have := HN.out; omega
            have hi0 : (0 : Int) ≤ i := by omega
            obtain ⟨E, hE⟩ : ∃ E, cellErr s c f ((i : Int) % 4) ((i : Int) / 4 % 5) ((i : Int) / 20) L = E := ⟨_, rfl⟩
            obtain ⟨T, hT⟩ : ∃ T, cellTxt s c f ((i : Int) % 4) ((i : Int) / 4 % 5) ((i : Int) / 20) L = T := ⟨_, rfl⟩
            have hC := fun w => rCell_any s c f ((i : Int) % 4) ((i : Int) / 4 % 5) ((i : Int) / 20) L w
            simp only [hE, hT] at hC
            have hM := cell_of_i (l := l) (r := i % 4) (g := i / 4 % 5) (h := i / 20) HS.out hci hfi (by omega) (by omega) (by omega) hL
            have m1 : ((i % 4 : Nat) : Int) = (i : Int) % 4 := by omega
            have m2 : ((i / 4 % 5 : Nat) : Int) = (i : Int) / 4 % 5 := by omega
            have m3 : ((i / 20 : Nat) : Int) = (i : Int) / 20 := by omega
            rw [m1, m2, m3, hE, hT] at hM
            have HC := Lib.hid hC
            clear hC hE hT m1 m2 m3
            have hcase : (∃ hgood : stM s c f l L (i % 4) (i / 4 % 5) (i / 20) = true, E = 0 ∧ T = l) ∨ (stM s c f l L (i % 4) (i / 4 % 5) (i / 20) = false ∧ ((E == 0) = false ∨ ((E == 0) = true ∧ (T == l) = false))) := by
              cases e1 : (E == 0)
              · rw [e1] at hM; exact .inr ⟨hM, .inl rfl⟩
              · cases e2 : (T == l)
                · rw [e1, e2] at hM; exact .inr ⟨hM, .inr ⟨rfl, rfl⟩⟩
                · rw [e1, e2] at hM; exact .inl ⟨hM, by simpa using e1, by simpa using e2⟩
            clear hM
            rcases hcase with ⟨hgood, rfl, rfl⟩ | ⟨hbad, hE | ⟨hE, hT⟩⟩
            · have HR := Lib.hid (pc_found HE.out hL hc hf HST.out hgood)
              clear hgood
              go_wp2_with (go_at_call 23; refine (HC.out _).mono ?_; rintro e w3 ⟨rfl, hb3⟩; have K3 := Lib.hid ((HB2.out.alloc _).after hb3); have S3 := Lib.hid ((Blk.new _ _ _).after hb3); have hlt4 : w.heap.size < w3.heap.size := K3.out.lt; have hlt5 : wr.heap.size < w3.heap.size := S3.out.lt; have s0 : w3.cell? ⟨wr.heap.size, 0, none⟩ = some (.int .i64 c) := S3.out.cell 0; have sf0 := S3.out.frozen 0; have r0 : w3.cell? ⟨w.heap.size, 0, none⟩ = some (.int .i64 0) := K3.out.cell 0; have rf0 := K3.out.frozen 0; have s1 : w3.cell? ⟨wr.heap.size, 1, none⟩ = some (.int .i64 f) := S3.out.cell 1; have sf1 := S3.out.frozen 1; have r1 : w3.cell? ⟨w.heap.size, 1, none⟩ = some (.int .i64 0) := K3.out.cell 1; have rf1 := K3.out.frozen 1; have s2 : w3.cell? ⟨wr.heap.size, 2, none⟩ = some (.int .i64 ((i : Int) % 4)) := S3.out.cell 2; have sf2 := S3.out.frozen 2; have r2 : w3.cell? ⟨w.heap.size, 2, none⟩ = some (.int .i64 0) := K3.out.cell 2; have rf2 := K3.out.frozen 2; have s3 : w3.cell? ⟨wr.heap.size, 3, none⟩ = some (.int .i64 ((i : Int) / 4 % 5)) := S3.out.cell 3; have sf3 := S3.out.frozen 3; have r3 : w3.cell? ⟨w.heap.size, 3, none⟩ = some (.int .i64 0) := K3.out.cell 3; have rf3 := K3.out.frozen 3; have s4 : w3.cell? ⟨wr.heap.size, 4, none⟩ = some (.int .i64 ((i : Int) / 20)) := S3.out.cell 4; have sf4 := S3.out.frozen 4; have r4 : w3.cell? ⟨w.heap.size, 4, none⟩ = some (.int .i64 0) := K3.out.cell 4; have rf4 := K3.out.frozen 4)
              have K5 := ((((K3.out.set_ 0 (.int .i64 c)).set_ 1 (.int .i64 f)).set_ 2 (.int .i64 ((i : Int) % 4))).set_ 3 (.int .i64 ((i : Int) / 4 % 5))).set_ 4 (.int .i64 ((i : Int) / 20))
              refine bodyPost_ret (v := .tuple #[.agg #[.int .i64 c, .int .i64 f, .int .i64 ((i : Int) % 4), .int .i64 ((i : Int) / 4 % 5), .int .i64 ((i : Int) / 20)], .int .i64 0]) ?_ rfl (Ret.mk' (by rw [← HR.out]; simp [pcVal]) (by repeat (first | exact Below.refl _ _ | assumption | refine bel_drewN ?_ _ | refine Below.drew ?_ | refine bel_alloc ?_ _ | refine Below.setCell ?_ (by first | omega | (simp; done) | (simp; omega)) _ | refine bel_step ?_ (by assumption))))
              generalize ((((w3.setCell ⟨w.heap.size, 0, none⟩ (.int .i64 c)).setCell ⟨w.heap.size, 1, none⟩ (.int .i64 f)).setCell ⟨w.heap.size, 2, none⟩ (.int .i64 ((i : Int) % 4))).setCell ⟨w.heap.size, 3, none⟩ (.int .i64 ((i : Int) / 4 % 5))).setCell ⟨w.heap.size, 4, none⟩ (.int .i64 ((i : Int) / 20)) = wf at K5 ⊢
              have t0 : wf.cell? ⟨w.heap.size, 0, none⟩ = some (.int .i64 c) := K5.cell 0
              have t1 : wf.cell? ⟨w.heap.size, 1, none⟩ = some (.int .i64 f) := K5.cell 1
              have t2 : wf.cell? ⟨w.heap.size, 2, none⟩ = some (.int .i64 ((i : Int) % 4)) := K5.cell 2
              have t3 : wf.cell? ⟨w.heap.size, 3, none⟩ = some (.int .i64 ((i : Int) / 4 % 5)) := K5.cell 3
              have t4 : wf.cell? ⟨w.heap.size, 4, none⟩ = some (.int .i64 ((i : Int) / 20)) := K5.cell 4
              simp [results, Try.results25, go_sem, t0, t1, t2, t3, t4]
            · have HI2 := Lib.hid (HI.out.step hbad)
              clear hbad
              go_wp2_with (go_at_call 23; refine (HC.out _).mono ?_; rintro e w3 ⟨rfl, hb3⟩; have K3 := Lib.hid ((HB2.out.alloc _).after hb3); have K4 := Lib.hid ((HPB.out.alloc _).after hb3))
              go_roundw
              case rel => exact ⟨i + 1, by omega, by go_num, HI2.out, (by repeat (first | exact Below.refl _ _ | assumption | refine bel_drewN ?_ _ | refine Below.drew ?_ | refine bel_alloc ?_ _ | refine Below.setCell ?_ (by first | omega | (simp; done) | (simp; omega)) _ | refine bel_step ?_ (by assumption))), K3.out, K4.out⟩
              case measure => simp [intOf]; omega
            · have HI2 := Lib.hid (HI.out.step hbad)
              have hE0 : E = 0 := by simpa using hE
              subst hE0
              clear hbad
              go_wp2_with (go_at_call 23; refine (HC.out _).mono ?_; rintro e w3 ⟨rfl, hb3⟩; have K3 := Lib.hid ((HB2.out.alloc _).after hb3); have K4 := Lib.hid ((HPB.out.alloc _).after hb3))
              go_roundw
              case rel => exact ⟨i + 1, by omega, by go_num, HI2.out, (by repeat (first | exact Below.refl _ _ | assumption | refine bel_drewN ?_ _ | refine Below.drew ?_ | refine bel_alloc ?_ _ | refine Below.setCell ?_ (by first | omega | (simp; done) | (simp; omega)) _ | refine bel_step ?_ (by assumption))), K3.out, K4.out⟩
              case measure => simp [intOf]; omega
          · have hilL : ¬ (i : Int) < 20 * (L + 1) := by have := HN.out; omega
            have HN2 := Lib.hid (HNN.out.step HE.out HPO.out (show NoI s c f l L N from by have := HI.out; rwa [show i = N from by omega] at this) HN.out)
            go_wp2_with fail
            go_roundw
            case rel => exact ⟨n + 1, by omega, by omega, by go_num, HN2.out, (by repeat (first | exact Below.refl _ _ | assumption | refine bel_drewN ?_ _ | refine Below.drew ?_ | refine bel_alloc ?_ _ | refine Below.setCell ?_ (by first | omega | (simp; done) | (simp; omega)) _ | refine bel_step ?_ (by assumption))), HB2.out⟩
            case measure => simp [intOf]; omega
      · have hpl := fun w => rplace_any s crs (cut l 0 n) w
        unfold placeV at hpl
        simp only [hp] at hpl
        have HP := Lib.hid hpl
        have HN2 := Lib.hid (HNN.out.skip HE.out hp)
        clear hpl hp
        go_wp2_with (go_at_call 16; refine (HP.out _).mono ?_; rintro e w1 ⟨rfl, hb1⟩; have K1 := Lib.hid (HB.out.after hb1); have hlt1 : w.heap.size < w1.heap.size := K1.out.lt)
        go_roundw
        case rel => exact ⟨n + 1, by omega, by omega, by go_num, HN2.out, (by repeat (first | exact Below.refl _ _ | assumption | refine bel_drewN ?_ _ | refine Below.drew ?_ | refine bel_alloc ?_ _ | refine Below.setCell ?_ (by first | omega | (simp; done) | (simp; omega)) _ | refine bel_step ?_ (by assumption))), K1.out.alloc _⟩
        case measure => simp [intOf]; omega
    · have HR := Lib.hid (pc_none HE.out hL (NoN.done HE.out (by have := HNN.out; rwa [show n = l.length + 1 from by omega] at this)))
      go_wp2_with fail
      exact bodyPost_ret (v := .tuple #[.agg #[.int .i64 0, .int .i64 0, .int .i64 0, .int .i64 0, .int .i64 0], .int .i64 4]) (by simp [results, Try.results25, go_sem, q0, q1, q2, q3, q4]) rfl (Ret.mk' (by rw [← HR.out]; rfl) (by repeat (first | exact Below.refl _ _ | assumption | refine bel_drewN ?_ _ | refine Below.drew ?_ | refine bel_alloc ?_ _ | refine Below.setCell ?_ (by first | omega | (simp; done) | (simp; omega)) _ | refine bel_step ?_ (by assumption))))
theorem rparse_any (s crs L : Int) (l : List UInt8) (w : World) (hlen : l.length ≤ 64) :
    Calls Try.prog 25 #[.int .u8 s, .int .i64 crs, .string (bs l), .int .i64 L] w (Ret (pcR s crs L l) w) := by
  by_cases h : spotErr s crs = 0
  · by_cases hL : 0 ≤ L ∧ L ≤ 15
    · exact rparse_ok s crs L l w h hL hlen
    · exact rparse_hold s crs L l w h (by omega)
  · exact rparse_sys s crs L l w h
end Go.Proofs.Yteldgllgagjciaa
