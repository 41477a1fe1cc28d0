/- An event of a piece, checked: the reference. -/
import Derived.Test.YtkgnmddakiagbaaGreatDoorChP
import Derived.Test.YtkgnmddakiagbaaGreatDoorRRt
import Derived.Test.YtkgnmddakiagbaaGreatDoorApp2
import Derived.Test.YtkgnmddakiagbaaGreatDoorCalm
import Derived.BigQuiet
import Derived.Deep.QuietTactic
import Derived.Deep.RegionHeld3
import Derived.IntWalk
import Derived.Deep.DeepCutAuto
namespace Go.Proofs.YtkgnmddakiagbaaGreatDoor
open Go.RowKit
set_option maxHeartbeats 16000000
set_option maxRecDepth 100000
set_option linter.unusedVariables false
set_option linter.unusedSimpArgs false
/-- The course of the stop before. -/
def lastOf (l : List Stp) (k : Nat) : Int := if k = 0 then 0 else (l.getD (k - 1) (0, 0, 0, 0, 0)).1
theorem lastOf_succ {l : List Stp} {k : Nat} (h : k < l.length) : lastOf l (k + 1) = l[k].1 := by
  unfold lastOf
  rw [if_neg (by omega), Nat.add_sub_cancel, List.getD_eq_getElem?_getD, List.getElem?_eq_getElem h]; rfl
theorem evE_sign' {p : Pce} {i : Int} {e : Ev} (h : sgOk e.val e.dot e.three = false ∨ (i = 0 ∧ e.val = 0)) : evE p i e = 20 := if_pos h
theorem evE_tie' {p : Pce} {i : Int} {e : Ev} (h : ¬ (sgOk e.val e.dot e.three = false ∨ (i = 0 ∧ e.val = 0))) (h1 : e.tie = true ∧ (0 < e.stops.length ∨ i = 0)) : evE p i e = 21 := by unfold evE; rw [if_neg h, if_pos h1]
theorem evE_stops' {p : Pce} {i : Int} {e : Ev} (h : ¬ (sgOk e.val e.dot e.three = false ∨ (i = 0 ∧ e.val = 0))) (h1 : ¬ (e.tie = true ∧ (0 < e.stops.length ∨ i = 0))) : evE p i e = stopsE p i 0 e.stops := by unfold evE; rw [if_neg h, if_neg h1]
theorem rEvent_any (M : PM) (p : Pce) (i : Nat) (hi : i < p.evs.length) (w : World) (hP : PcAt w w.heap.size M p) (hO : PcOk p) :
    Calls Tryz.prog 94 #[pcValue M p, .int .i64 i] w (Ret (.int .i64 (evE p i p.evs[i])) w) := by
  obtain ⟨A1, A2, A3, c1, c2, c3⟩ := M
  have hLL := fun (x : Int) (w' : World) (hb : Below w.heap.size w w') => rLongest_any ⟨A1, A2, A3, c1, c2, c3⟩ p i x w' (hP.after hb) hO
  have HP := Lib.hid hP
  have H4 := Lib.hid hO.n4
  have hn1b := hO.n1
  have hn3 := hO.n3
  obtain ⟨n1, hn1⟩ : ∃ n, p.cs.length = n := ⟨_, rfl⟩
  obtain ⟨n2, hn2⟩ : ∃ n, p.st.length = n := ⟨_, rfl⟩
  obtain ⟨n3, hnn⟩ : ∃ n, p.evs.length = n := ⟨_, rfl⟩
  unfold pcValue at *
  simp only at *
  rw [hn1, hn2, hnn] at hLL
  rw [hn1] at hn1b
  rw [hnn] at hn3
  rw [hn1, hn2, hnn]
  have HL := Lib.hid hLL
  have HN1 := Lib.hid hn1
  have HN := Lib.hid hnn
  have hi2 : i < n3 := by omega
  obtain ⟨ad, S, c, hA, hb, e0, e1, e2, e3, e4, e5, hS⟩ := hP.2.1.ev hi
  simp only at hA
  subst hA
  have HS := Lib.hid hS
  have H20 := H4.out _ hi
  obtain ⟨e, he⟩ : ∃ e, p.evs[i] = e := ⟨_, rfl⟩
  rw [he] at e0 e1 e2 e3 e4 e5 H20 ⊢
  rw [he] at HS
  obtain ⟨m, hm⟩ : ∃ m, e.stops.length = m := ⟨_, rfl⟩
  rw [hm] at e5 H20
  have HM := Lib.hid hm
  have KV := Lib.hid (fun w => right_any e.val e.dot e.three w)
  have hal : ∀ (o : Obj) (x : Addr), x.block < w.heap.size → (w.alloc o).cell? x = w.cell? x := fun o x h => World.cell?_alloc_lt w o x h
  have f0 : ∀ o : Obj, (w.alloc o).cell? (ad.add (i * 6)) = some (.bool e.bar) := fun o => by rw [hal _ _ (by rw [block_of_add]; exact hb), e0]
  have f1 : ∀ o : Obj, (w.alloc o).cell? ⟨(ad.add (i * 6)).block, (ad.add (i * 6)).off + 1, none⟩ = some (.int .i64 e.val) := fun o => by rw [hal _ _ (by rw [block_of_add]; exact hb), e1]
  have f2 : ∀ o : Obj, (w.alloc o).cell? ⟨(ad.add (i * 6)).block, (ad.add (i * 6)).off + 2, none⟩ = some (.bool e.dot) := fun o => by rw [hal _ _ (by rw [block_of_add]; exact hb), e2]
  have f3 : ∀ o : Obj, (w.alloc o).cell? ⟨(ad.add (i * 6)).block, (ad.add (i * 6)).off + 3, none⟩ = some (.bool e.three) := fun o => by rw [hal _ _ (by rw [block_of_add]; exact hb), e3]
  have f4 : ∀ o : Obj, (w.alloc o).cell? ⟨(ad.add (i * 6)).block, (ad.add (i * 6)).off + 4, none⟩ = some (.bool e.tie) := fun o => by rw [hal _ _ (by rw [block_of_add]; exact hb), e4]
  have f5 : ∀ o : Obj, (w.alloc o).cell? ⟨(ad.add (i * 6)).block, (ad.add (i * 6)).off + 5, none⟩ = some (.slice S m c) := fun o => by rw [hal _ _ (by rw [block_of_add]; exact hb), e5]
  clear hLL hP hO hn1 hn2 hnn hS he hal e0 e1 e2 e3 e4 e5 hi
  by_cases b2 : sgOk e.val e.dot e.three = false
  · rw [evE_sign' (.inl b2)]
    rw [b2] at KV
    clear hm b2
    go_enter Tryz.func94, Tryz.ntmps94
    go_wp2_with (go_at_call 153; refine (KV.out _).mono ?_; rintro e' w1 ⟨rfl, hb1⟩; have kx : Blk w1 (w.heap.size + 1) 78 #[.bool e.bar, .int .i64 e.val, .bool e.dot, .bool e.three, .bool e.tie, .slice S m c] := Blk.after (blk_new' (by simp)) hb1; have kp := ((Blk.new _ _ _).alloc _).after hb1; have x0 : w1.cell? ⟨w.heap.size + 1, 0, none⟩ = some (.bool e.bar) := kx.cell 0; have x1 : w1.cell? ⟨w.heap.size + 1, 1, none⟩ = some (.int .i64 e.val) := kx.cell 1; have x2 : w1.cell? ⟨w.heap.size + 1, 2, none⟩ = some (.bool e.dot) := kx.cell 2; have x3 : w1.cell? ⟨w.heap.size + 1, 3, none⟩ = some (.bool e.three) := kx.cell 3; have x4 : w1.cell? ⟨w.heap.size + 1, 4, none⟩ = some (.bool e.tie) := kx.cell 4; have x5 : w1.cell? ⟨w.heap.size + 1, 5, none⟩ = some (.slice S m c) := kx.cell 5; have p0 : w1.cell? ⟨w.heap.size, 0, none⟩ = some (.slice A1 n1 c1) := kp.cell 0; have p1 : w1.cell? ⟨w.heap.size, 1, none⟩ = some (.slice A2 n2 c2) := kp.cell 1; have p2 : w1.cell? ⟨w.heap.size, 2, none⟩ = some (.slice (some ad) n3 c3) := kp.cell 2; have KX := Lib.hid kx; have KP := Lib.hid kp; clear kx kp)
    go_ret
    exact Ret.mk' rfl (by repeat (first | exact Below.refl _ _ | assumption | refine bel_drewN ?_ _ | refine Below.drew ?_ | refine bel_alloc ?_ _ | refine Below.setCell ?_ (by first | omega | (simp; done) | (simp; omega)) _ | refine bel_step ?_ (by assumption)))
  · have b2' : sgOk e.val e.dot e.three = true := by simpa using b2
    rw [b2'] at KV
    by_cases b3 : i = 0 ∧ e.val = 0
    · rw [evE_sign' (.inr ⟨by have := b3.1; omega, b3.2⟩)]
      obtain ⟨b3a, z0⟩ := b3
      have d1 : ((i : Int) == 0) = true := by simpa using b3a
      have d2 : (e.val == 0) = true := by simpa using z0
      clear hm b2 b2' z0 b3a
      go_enter Tryz.func94, Tryz.ntmps94
      go_wp2_with (go_at_call 153; refine (KV.out _).mono ?_; rintro e' w1 ⟨rfl, hb1⟩; have kx : Blk w1 (w.heap.size + 1) 78 #[.bool e.bar, .int .i64 e.val, .bool e.dot, .bool e.three, .bool e.tie, .slice S m c] := Blk.after (blk_new' (by simp)) hb1; have kp := ((Blk.new _ _ _).alloc _).after hb1; have x0 : w1.cell? ⟨w.heap.size + 1, 0, none⟩ = some (.bool e.bar) := kx.cell 0; have x1 : w1.cell? ⟨w.heap.size + 1, 1, none⟩ = some (.int .i64 e.val) := kx.cell 1; have x2 : w1.cell? ⟨w.heap.size + 1, 2, none⟩ = some (.bool e.dot) := kx.cell 2; have x3 : w1.cell? ⟨w.heap.size + 1, 3, none⟩ = some (.bool e.three) := kx.cell 3; have x4 : w1.cell? ⟨w.heap.size + 1, 4, none⟩ = some (.bool e.tie) := kx.cell 4; have x5 : w1.cell? ⟨w.heap.size + 1, 5, none⟩ = some (.slice S m c) := kx.cell 5; have p0 : w1.cell? ⟨w.heap.size, 0, none⟩ = some (.slice A1 n1 c1) := kp.cell 0; have p1 : w1.cell? ⟨w.heap.size, 1, none⟩ = some (.slice A2 n2 c2) := kp.cell 1; have p2 : w1.cell? ⟨w.heap.size, 2, none⟩ = some (.slice (some ad) n3 c3) := kp.cell 2; have KX := Lib.hid kx; have KP := Lib.hid kp; clear kx kp)
      go_ret
      exact Ret.mk' rfl (by repeat (first | exact Below.refl _ _ | assumption | refine bel_drewN ?_ _ | refine Below.drew ?_ | refine bel_alloc ?_ _ | refine Below.setCell ?_ (by first | omega | (simp; done) | (simp; omega)) _ | refine bel_step ?_ (by assumption)))
    · have g1 : ¬ (sgOk e.val e.dot e.three = false ∨ ((i : Int) = 0 ∧ e.val = 0)) := by rw [b2']; intro h; rcases h with h | h; cases h; exact b3 ⟨by omega, h.2⟩
      have hz : (((i : Int) == 0) = false ∧ True) ∨ (((i : Int) == 0) = true ∧ (e.val == 0) = false) := by
        by_cases hz : i = 0
        · exact .inr ⟨by simpa using hz, by simpa using fun h => b3 ⟨hz, h⟩⟩
        · exact .inl ⟨by simpa using hz, trivial⟩
      clear b2 b2' b3
      by_cases b4 : e.tie = true ∧ (0 < e.stops.length ∨ (i : Int) = 0)
      · rw [evE_tie' g1 b4]
        obtain ⟨b5, b6⟩ := b4
        rw [b5] at f4
        rw [hm] at b6
        have hcase : (0 < m) ∨ (¬ 0 < m ∧ ((i : Int) == 0) = true) := by
          by_cases h : 0 < m
          · exact .inl h
          · exact .inr ⟨h, by have : (i : Int) = 0 := by omega
                              simpa using this⟩
        clear hm b5 b6 g1
        rcases hcase with d5 | ⟨d5, d6⟩
        · rcases hz with ⟨d1, d2⟩ | ⟨d1, d2⟩
          all_goals
            go_enter Tryz.func94, Tryz.ntmps94
            go_wp2_with (go_at_call 153; refine (KV.out _).mono ?_; rintro e' w1 ⟨rfl, hb1⟩; have kx : Blk w1 (w.heap.size + 1) 78 #[.bool e.bar, .int .i64 e.val, .bool e.dot, .bool e.three, .bool true, .slice S m c] := Blk.after (blk_new' (by simp)) hb1; have kp := ((Blk.new _ _ _).alloc _).after hb1; have x0 : w1.cell? ⟨w.heap.size + 1, 0, none⟩ = some (.bool e.bar) := kx.cell 0; have x1 : w1.cell? ⟨w.heap.size + 1, 1, none⟩ = some (.int .i64 e.val) := kx.cell 1; have x2 : w1.cell? ⟨w.heap.size + 1, 2, none⟩ = some (.bool e.dot) := kx.cell 2; have x3 : w1.cell? ⟨w.heap.size + 1, 3, none⟩ = some (.bool e.three) := kx.cell 3; have x4 : w1.cell? ⟨w.heap.size + 1, 4, none⟩ = some (.bool true) := kx.cell 4; have x5 : w1.cell? ⟨w.heap.size + 1, 5, none⟩ = some (.slice S m c) := kx.cell 5; have p0 : w1.cell? ⟨w.heap.size, 0, none⟩ = some (.slice A1 n1 c1) := kp.cell 0; have p1 : w1.cell? ⟨w.heap.size, 1, none⟩ = some (.slice A2 n2 c2) := kp.cell 1; have p2 : w1.cell? ⟨w.heap.size, 2, none⟩ = some (.slice (some ad) n3 c3) := kp.cell 2; have KX := Lib.hid kx; have KP := Lib.hid kp; clear kx kp)
            go_ret
            exact Ret.mk' rfl (by repeat (first | exact Below.refl _ _ | assumption | refine bel_drewN ?_ _ | refine Below.drew ?_ | refine bel_alloc ?_ _ | refine Below.setCell ?_ (by first | omega | (simp; done) | (simp; omega)) _ | refine bel_step ?_ (by assumption)))
        · rcases hz with ⟨d1, d2⟩ | ⟨d1, d2⟩
          · rw [d6] at d1; cases d1
          · clear d6
            go_enter Tryz.func94, Tryz.ntmps94
            go_wp2_with (go_at_call 153; refine (KV.out _).mono ?_; rintro e' w1 ⟨rfl, hb1⟩; have kx : Blk w1 (w.heap.size + 1) 78 #[.bool e.bar, .int .i64 e.val, .bool e.dot, .bool e.three, .bool true, .slice S m c] := Blk.after (blk_new' (by simp)) hb1; have kp := ((Blk.new _ _ _).alloc _).after hb1; have x0 : w1.cell? ⟨w.heap.size + 1, 0, none⟩ = some (.bool e.bar) := kx.cell 0; have x1 : w1.cell? ⟨w.heap.size + 1, 1, none⟩ = some (.int .i64 e.val) := kx.cell 1; have x2 : w1.cell? ⟨w.heap.size + 1, 2, none⟩ = some (.bool e.dot) := kx.cell 2; have x3 : w1.cell? ⟨w.heap.size + 1, 3, none⟩ = some (.bool e.three) := kx.cell 3; have x4 : w1.cell? ⟨w.heap.size + 1, 4, none⟩ = some (.bool true) := kx.cell 4; have x5 : w1.cell? ⟨w.heap.size + 1, 5, none⟩ = some (.slice S m c) := kx.cell 5; have p0 : w1.cell? ⟨w.heap.size, 0, none⟩ = some (.slice A1 n1 c1) := kp.cell 0; have p1 : w1.cell? ⟨w.heap.size, 1, none⟩ = some (.slice A2 n2 c2) := kp.cell 1; have p2 : w1.cell? ⟨w.heap.size, 2, none⟩ = some (.slice (some ad) n3 c3) := kp.cell 2; have KX := Lib.hid kx; have KP := Lib.hid kp; clear kx kp)
            go_ret
            exact Ret.mk' rfl (by repeat (first | exact Below.refl _ _ | assumption | refine bel_drewN ?_ _ | refine Below.drew ?_ | refine bel_alloc ?_ _ | refine Below.setCell ?_ (by first | omega | (simp; done) | (simp; omega)) _ | refine bel_step ?_ (by assumption)))
      · rw [evE_stops' g1 b4]
        obtain ⟨V, hV⟩ : ∃ V, stopsE p i 0 e.stops = V := ⟨_, rfl⟩
        rw [hV]
        have HV := Lib.hid hV
        have hcase : e.tie = false ∨ (e.tie = true ∧ m = 0 ∧ ((i : Int) == 0) = false) := by
          cases ht : e.tie
          · exact .inl rfl
          · refine .inr ⟨rfl, ?_, ?_⟩
            · have : ¬ 0 < e.stops.length := fun h => b4 ⟨ht, .inl h⟩
              omega
            · by_cases h : (i : Int) = 0
              · exact absurd ⟨ht, .inr h⟩ b4
              · simpa using h
        clear hV hm g1 b4
        rcases hcase with ht | ⟨ht, hm0, hi0⟩
        · rw [ht] at f4
          clear ht
          go_enter Tryz.func94, Tryz.ntmps94
          go_upto_region 2 with fail
          go_cut [26] (fun b wx => b = .bool false ∧ Below w.heap.size w wx ∧ Blk wx w.heap.size 29 #[.slice A1 n1 c1, .slice A2 n2 c2, .slice (some ad) n3 c3] ∧ Blk wx (w.heap.size + 1) 78 #[.bool e.bar, .int .i64 e.val, .bool e.dot, .bool e.three, .bool false, .slice S m c])
          case first =>
            rcases hz with ⟨d1, d2⟩ | ⟨d1, d2⟩
            all_goals
              go_wp2_with (go_at_call 153; refine (KV.out _).mono ?_; rintro e' w1 ⟨rfl, hb1⟩; have kx : Blk w1 (w.heap.size + 1) 78 #[.bool e.bar, .int .i64 e.val, .bool e.dot, .bool e.three, .bool false, .slice S m c] := Blk.after (blk_new' (by simp)) hb1; have kp := ((Blk.new _ _ _).alloc _).after hb1; have x0 : w1.cell? ⟨w.heap.size + 1, 0, none⟩ = some (.bool e.bar) := kx.cell 0; have x1 : w1.cell? ⟨w.heap.size + 1, 1, none⟩ = some (.int .i64 e.val) := kx.cell 1; have x2 : w1.cell? ⟨w.heap.size + 1, 2, none⟩ = some (.bool e.dot) := kx.cell 2; have x3 : w1.cell? ⟨w.heap.size + 1, 3, none⟩ = some (.bool e.three) := kx.cell 3; have x4 : w1.cell? ⟨w.heap.size + 1, 4, none⟩ = some (.bool false) := kx.cell 4; have x5 : w1.cell? ⟨w.heap.size + 1, 5, none⟩ = some (.slice S m c) := kx.cell 5; have p0 : w1.cell? ⟨w.heap.size, 0, none⟩ = some (.slice A1 n1 c1) := kp.cell 0; have p1 : w1.cell? ⟨w.heap.size, 1, none⟩ = some (.slice A2 n2 c2) := kp.cell 1; have p2 : w1.cell? ⟨w.heap.size, 2, none⟩ = some (.slice (some ad) n3 c3) := kp.cell 2; have KX := Lib.hid kx; have KP := Lib.hid kp; clear kx kp)
              go_meet
              exact ⟨rfl, (by repeat (first | exact Below.refl _ _ | assumption | refine bel_drewN ?_ _ | refine Below.drew ?_ | refine bel_alloc ?_ _ | refine Below.setCell ?_ (by first | omega | (simp; done) | (simp; omega)) _ | refine bel_step ?_ (by assumption))), KP.out, KX.out⟩
          case rest =>
            obtain ⟨hcb, hc1, hc2, hc3⟩ := hcut
            subst hcb
            have KP := Lib.hid hc2
            have KX := Lib.hid hc3
            have p0 : wc.cell? ⟨w.heap.size, 0, none⟩ = some (.slice A1 n1 c1) := hc2.cell 0
            have p1 : wc.cell? ⟨w.heap.size, 1, none⟩ = some (.slice A2 n2 c2) := hc2.cell 1
            have p2 : wc.cell? ⟨w.heap.size, 2, none⟩ = some (.slice (some ad) n3 c3) := hc2.cell 2
            have x0 : wc.cell? ⟨w.heap.size + 1, 0, none⟩ = some (.bool e.bar) := hc3.cell 0
            have x1 : wc.cell? ⟨w.heap.size + 1, 1, none⟩ = some (.int .i64 e.val) := hc3.cell 1
            have x2 : wc.cell? ⟨w.heap.size + 1, 2, none⟩ = some (.bool e.dot) := hc3.cell 2
            have x3 : wc.cell? ⟨w.heap.size + 1, 3, none⟩ = some (.bool e.three) := hc3.cell 3
            have x4 : wc.cell? ⟨w.heap.size + 1, 4, none⟩ = some (.bool false) := hc3.cell 4
            have x5 : wc.cell? ⟨w.heap.size + 1, 5, none⟩ = some (.slice S m c) := hc3.cell 5
            have hlw : w.heap.size + 1 < wc.heap.size := hc3.lt
            have hbw := hc1
            clear hc1 hc2 hc3
            go_wp2_with fail
            go_loopw [6] (fun v wr => ∃ k : Nat, k ≤ m ∧ v = .int .i64 k ∧ V = stopsE p i (lastOf e.stops k) (e.stops.drop k) ∧ Below w.heap.size w wr ∧ Blk wr w.heap.size 29 #[.slice A1 n1 c1, .slice A2 n2 c2, .slice (some ad) n3 c3] ∧ Blk wr (w.heap.size + 1) 78 #[.bool e.bar, .int .i64 e.val, .bool e.dot, .bool e.three, .bool false, .slice S m c]) (fun v _ => m - (intOf v).toNat)
            case atStart => exact ⟨0, Nat.zero_le _, rfl, HV.out.symm, (by repeat (first | exact Below.refl _ _ | assumption | refine bel_drewN ?_ _ | refine Below.drew ?_ | refine bel_alloc ?_ _ | refine Below.setCell ?_ (by first | omega | (simp; done) | (simp; omega)) _ | refine bel_step ?_ (by assumption))), KP.out, KX.out⟩
            case round =>
              clear x0 x1 x2 x3 x4 x5 p0 p1 p2
              obtain ⟨k, hk, rfl, hs, hbel, hbp, hbe⟩ := hrel
              have HR := Lib.hid hs
              have KB := Lib.hid hbp
              have KE := Lib.hid hbe
              have hlt0 : w.heap.size < wr.heap.size := hbp.lt
              have hlt1 : w.heap.size + 1 < wr.heap.size := hbe.lt
              have p0 : wr.cell? ⟨w.heap.size, 0, none⟩ = some (.slice A1 n1 c1) := hbp.cell 0
              have p1 : wr.cell? ⟨w.heap.size, 1, none⟩ = some (.slice A2 n2 c2) := hbp.cell 1
              have p2 : wr.cell? ⟨w.heap.size, 2, none⟩ = some (.slice (some ad) n3 c3) := hbp.cell 2
              have x0 : wr.cell? ⟨w.heap.size + 1, 0, none⟩ = some (.bool e.bar) := hbe.cell 0
              have x1 : wr.cell? ⟨w.heap.size + 1, 1, none⟩ = some (.int .i64 e.val) := hbe.cell 1
              have x2 : wr.cell? ⟨w.heap.size + 1, 2, none⟩ = some (.bool e.dot) := hbe.cell 2
              have x3 : wr.cell? ⟨w.heap.size + 1, 3, none⟩ = some (.bool e.three) := hbe.cell 3
              have x4 : wr.cell? ⟨w.heap.size + 1, 4, none⟩ = some (.bool false) := hbe.cell 4
              have x5 : wr.cell? ⟨w.heap.size + 1, 5, none⟩ = some (.slice S m c) := hbe.cell 5
              clear hs hbp hbe
              by_cases hlt : k < m
              · have hk2 : k < e.stops.length := by have := HM.out; omega
                have HS2 := Lib.hid (HS.out.below hbel)
                obtain ⟨ad2, hA2, hb2', y0, y1, y2, y3, y4⟩ := HS2.out.stp hk2
                subst hA2
                have hs2 := HR.out.trans (stopsE_at hk2)
                have hprev : ∀ k' : Nat, k = k' + 1 → ∀ o : Obj, (wr.alloc o).cell? (ad2.add (k' * 5)) = some (.int .i64 (lastOf e.stops k)) := by
                  intro k' hk' o
                  obtain ⟨ad3, hA3, hb3, z0, _⟩ := HS2.out.stp (k := k') (by omega)
                  obtain rfl : ad2 = ad3 := by injection hA3
                  have hl : lastOf e.stops k = e.stops[k'].1 := by subst hk'; exact lastOf_succ (by omega)
                  rw [World.cell?_alloc_lt _ _ _ (by rw [block_of_add]; omega), z0, hl]
                have hlast0 : k = 0 → lastOf e.stops k = 0 := fun h => by rw [h]; rfl
                have hlastn : ∀ x : Int, e.stops[k].1 = x → lastOf e.stops (k + 1) = x := fun x h => by rw [lastOf_succ hk2, h]
                obtain ⟨last, hlast⟩ : ∃ last, lastOf e.stops k = last := ⟨_, rfl⟩
                rw [hlast] at hs2 hlast0
                simp only [hlast] at hprev
                obtain ⟨⟨c, f, r, g, h⟩, hsk⟩ : ∃ s, e.stops[k] = s := ⟨_, rfl⟩
                rw [hsk] at hs2 y0 y1 y2 y3 y4
                simp only at y0 y1 y2 y3 y4 hs2
                have hln := hlastn c (by rw [hsk])
                have HN2 := Lib.hid hln
                obtain ⟨Lg, hLg⟩ : ∃ L, longestN p.evs i c = L := ⟨_, rfl⟩
                have HL2 := HL.out c
                rw [hLg] at HL2
                have HL := Lib.hid (fun (_ : Unit) => HL2)
                have hn1 := HN1.out
                clear hsk hlast hlastn hln HL2
                by_cases b1 : c < 1
                · have HE4 := Lib.hid (hs2.trans (by rw [stopE_crs (.inl b1)]; first | done | exact if_pos (by decide)))
                  clear hs2 hn1 hLg
                  go_wp2
                  go_ret
                  exact Ret.mk' (by rw [HE4.out]; rfl) (by repeat (first | exact Below.refl _ _ | assumption | refine bel_drewN ?_ _ | refine Below.drew ?_ | refine bel_alloc ?_ _ | refine Below.setCell ?_ (by first | omega | (simp; done) | (simp; omega)) _ | refine bel_step ?_ (by assumption)))
                · by_cases b2 : (n1 : Int) < c
                  · have HE4 := Lib.hid (hs2.trans (by rw [stopE_crs (.inr (by show (p.cs.length : Int) < c; omega))]; first | done | exact if_pos (by decide)))
                    clear hs2 hn1 hLg
                    go_wp2
                    go_ret
                    exact Ret.mk' (by rw [HE4.out]; rfl) (by repeat (first | exact Below.refl _ _ | assumption | refine bel_drewN ?_ _ | refine Below.drew ?_ | refine bel_alloc ?_ _ | refine Below.setCell ?_ (by first | omega | (simp; done) | (simp; omega)) _ | refine bel_step ?_ (by assumption)))
                  · obtain ⟨q, rfl⟩ : ∃ q : Nat, c = (q : Int) + 1 := ⟨c.toNat - 1, by omega⟩
                    have hq : q < p.cs.length := by omega
                    obtain ⟨ad1, hA1, hb1', hc⟩ : ∃ ad1, A1 = some ad1 ∧ ad1.block < w.heap.size ∧ wr.cell? ⟨(ad1.add (q * 3)).block, (ad1.add (q * 3)).off + 1, none⟩ = some (.int .i64 p.cs[q].2.1) := by
                      obtain ⟨a, x, y, _, z, _⟩ := (HP.out.1.below hbel).crs hq
                      exact ⟨a, x, y, z⟩
                    subst hA1
                    have hfr := fretsOf_at hq
                    have g1' : ¬ ((q : Int) + 1 < 1 ∨ (p.cs.length : Int) < (q : Int) + 1) := by omega
                    obtain ⟨F, hF⟩ : ∃ F, p.cs[q].2.1 = F := ⟨_, rfl⟩
                    rw [hF] at hc hfr
                    have hc2 : ∀ o : Obj, (wr.alloc o).cell? ⟨(ad1.add (q * 3)).block, (ad1.add (q * 3)).off + 1, none⟩ = some (.int .i64 F) := fun o => by
                      rw [World.cell?_alloc_lt _ _ _ (by rw [block_of_add]; omega), hc]
                    have hq2 : q < n1 := by omega
                    clear hc hF
                    by_cases b3 : f < 0
                    · have HE4 := Lib.hid (hs2.trans (by rw [stopE_fret g1' (.inl b3)]; first | done | exact if_pos (by decide)))
                      clear hs2 hn1 hLg hfr g1' hq
                      have d3 : decide (f < 0) = true := decide_eq_true b3
                      go_wp2
                      go_quiet (fail)
                      go_wp2
                      go_ret
                      exact Ret.mk' (by rw [HE4.out]; rfl) (by repeat (first | exact Below.refl _ _ | assumption | refine bel_drewN ?_ _ | refine Below.drew ?_ | refine bel_alloc ?_ _ | refine Below.setCell ?_ (by first | omega | (simp; done) | (simp; omega)) _ | refine bel_step ?_ (by assumption)))
                    · have d3 : decide (f < 0) = false := decide_eq_false b3
                      by_cases b4' : F < f
                      · have HE4 := Lib.hid (hs2.trans (by rw [stopE_fret g1' (.inr (by show fretsOf p.cs ((q : Int) + 1) < f; rw [hfr]; exact b4'))]; first | done | exact if_pos (by decide)))
                        clear hs2 hn1 hLg hfr g1' hq
                        have d4 : decide (F < f) = true := decide_eq_true b4'
                        go_wp2
                        go_quiet (fail)
                        go_wp2
                        go_ret
                        exact Ret.mk' (by rw [HE4.out]; rfl) (by repeat (first | exact Below.refl _ _ | assumption | refine bel_drewN ?_ _ | refine Below.drew ?_ | refine bel_alloc ?_ _ | refine Below.setCell ?_ (by first | omega | (simp; done) | (simp; omega)) _ | refine bel_step ?_ (by assumption)))
                      · have g2 : ¬ (f < 0 ∨ fretsOf p.cs ((q : Int) + 1) < f) := by rw [hfr]; omega
                        have d4 : decide (F < f) = false := decide_eq_false b4'
                        rcases Nat.eq_zero_or_pos k with hk0 | hk0
                        · have hl0 := hlast0 hk0
                          have b5 : ¬ (q : Int) + 1 ≤ last := by omega
                          have dk1 : decide ((0 : Int) < (k : Int)) = false := decide_eq_false (by omega)
                          have dk2 : decide (0 < k) = false := decide_eq_false (by omega)
                          clear hprev hl0 hlast0 hk0
                          by_cases b6 : r < 0
                          · have HE4 := Lib.hid (hs2.trans (by rw [stopE_mark g1' g2 b5 (.inl (.inl b6))]; first | done | exact if_pos (by decide)))
                            clear hs2 hn1 hLg hfr g1' hq g2
                            go_wp2
                            go_quiet (fail)
                            go_wp2
                            go_quiet (fail)
                            go_wp2
                            go_ret
                            exact Ret.mk' (by rw [HE4.out]; rfl) (by repeat (first | exact Below.refl _ _ | assumption | refine bel_drewN ?_ _ | refine Below.drew ?_ | refine bel_alloc ?_ _ | refine Below.setCell ?_ (by first | omega | (simp; done) | (simp; omega)) _ | refine bel_step ?_ (by assumption)))
                          · have t_b6 := b6
                            by_cases b7 : 3 < r
                            · have HE4 := Lib.hid (hs2.trans (by rw [stopE_mark g1' g2 b5 (.inl (.inr b7))]; first | done | exact if_pos (by decide)))
                              clear hs2 hn1 hLg hfr g1' hq g2
                              go_wp2
                              go_quiet (fail)
                              go_wp2
                              go_quiet (fail)
                              go_wp2
                              go_ret
                              exact Ret.mk' (by rw [HE4.out]; rfl) (by repeat (first | exact Below.refl _ _ | assumption | refine bel_drewN ?_ _ | refine Below.drew ?_ | refine bel_alloc ?_ _ | refine Below.setCell ?_ (by first | omega | (simp; done) | (simp; omega)) _ | refine bel_step ?_ (by assumption)))
                            · have t_b7 := b7
                              by_cases b8 : g < 0
                              · have HE4 := Lib.hid (hs2.trans (by rw [stopE_mark g1' g2 b5 (.inr (.inl b8))]; first | done | exact if_pos (by decide)))
                                clear hs2 hn1 hLg hfr g1' hq g2
                                go_wp2
                                go_quiet (fail)
                                go_wp2
                                go_quiet (fail)
                                go_wp2
                                go_ret
                                exact Ret.mk' (by rw [HE4.out]; rfl) (by repeat (first | exact Below.refl _ _ | assumption | refine bel_drewN ?_ _ | refine Below.drew ?_ | refine bel_alloc ?_ _ | refine Below.setCell ?_ (by first | omega | (simp; done) | (simp; omega)) _ | refine bel_step ?_ (by assumption)))
                              · have t_b8 := b8
                                by_cases b9 : 4 < g
                                · have HE4 := Lib.hid (hs2.trans (by rw [stopE_mark g1' g2 b5 (.inr (.inr b9))]; first | done | exact if_pos (by decide)))
                                  clear hs2 hn1 hLg hfr g1' hq g2
                                  go_wp2
                                  go_quiet (fail)
                                  go_wp2
                                  go_quiet (fail)
                                  go_wp2
                                  go_ret
                                  exact Ret.mk' (by rw [HE4.out]; rfl) (by repeat (first | exact Below.refl _ _ | assumption | refine bel_drewN ?_ _ | refine Below.drew ?_ | refine bel_alloc ?_ _ | refine Below.setCell ?_ (by first | omega | (simp; done) | (simp; omega)) _ | refine bel_step ?_ (by assumption)))
                                · have t_b9 := b9
                                  have g3 : ¬ ((r < 0 ∨ 3 < r) ∨ (g < 0 ∨ 4 < g)) := by omega
                                  clear t_b6 t_b7 t_b8 t_b9
                                  by_cases b10 : h < 0
                                  · have HE4 := Lib.hid (hs2.trans (by rw [stopE_hold g1' g2 b5 g3 (.inl (.inl b10))]; first | done | exact if_pos (by decide)))
                                    clear hs2 hn1 hLg hfr g1' hq g2 g3
                                    have d10 : decide (h < 0) = true := decide_eq_true b10
                                    go_wp2
                                    go_quiet (fail)
                                    go_wp2
                                    go_quiet (fail)
                                    go_wp2
                                    go_quiet (fail)
                                    go_wp2
                                    go_ret
                                    exact Ret.mk' (by rw [HE4.out]; rfl) (by repeat (first | exact Below.refl _ _ | assumption | refine bel_drewN ?_ _ | refine Below.drew ?_ | refine bel_alloc ?_ _ | refine Below.setCell ?_ (by first | omega | (simp; done) | (simp; omega)) _ | refine bel_step ?_ (by assumption)))
                                  · have d10 : decide (h < 0) = false := decide_eq_false b10
                                    by_cases b11 : (Lg : Int) < h
                                    · have HE4 := Lib.hid (hs2.trans (by rw [stopE_hold g1' g2 b5 g3 (.inl (.inr (by show ((longestN p.evs i ((q : Int) + 1) : Nat) : Int) < h; rw [hLg]; exact b11)))]; first | done | exact if_pos (by decide)))
                                      clear hs2 hn1 hLg hfr g1' hq g2 g3
                                      have d11 : decide ((Lg : Int) < h) = true := decide_eq_true b11
                                      go_wp2
                                      go_quiet (fail)
                                      go_wp2
                                      go_quiet (fail)
                                      go_wp2
                                      refine wp_region_calm _ (by kernel_rfl) (by kernel_rfl) (bel_drewN (Below.refl _ _) _) ?_
                                      repeat
                                        first
                                        | go_big_quiet_skip
                                        | (go_big_quiet_want
                                           apply calm_val
                                           focus
                                             intro w' hw'
                                             obtain ⟨bc, bp⟩ := calm_cell hw'
                                             go_simp
                                             first | done | rfl | exact rfl
                                           (try simp only [Act.put, List.setIfInBounds_toArray, List.set_cons_zero, List.set_cons_succ])
                                           go_big_quiet_on)
                                        | (go_big_quiet_want
                                           apply calm_enter (f := 154)
                                           focus
                                             intro w' hw'
                                             go_simp
                                             first | done | rfl | exact rfl
                                           focus
                                             intro w' hw'
                                             have hw2 : Below _ _ w' := hw'
                                             exact HL.out () w' (by repeat (first | exact Below.refl _ _ | assumption | refine bel_drewN ?_ _ | refine Below.drew ?_ | refine bel_alloc ?_ _ | refine Below.setCell ?_ (by first | omega | (simp; done) | (simp; omega)) _ | refine bel_step ?_ (by assumption)))
                                           (try simp only [Act.put, List.setIfInBounds_toArray, List.set_cons_zero, List.set_cons_succ])
                                           go_big_quiet_on)
                                      refine wpQuiet_nil ?_
                                      intro w1 hw1
                                      have hw2 : Below _ _ w1 := hw1
                                      clear hw1
                                      go_wp2
                                      go_ret
                                      exact Ret.mk' (by rw [HE4.out]; rfl) (by repeat (first | exact Below.refl _ _ | assumption | refine bel_drewN ?_ _ | refine Below.drew ?_ | refine bel_alloc ?_ _ | refine Below.setCell ?_ (by first | omega | (simp; done) | (simp; omega)) _ | refine bel_step ?_ (by assumption)))
                                    · have d11 : decide ((Lg : Int) < h) = false := decide_eq_false b11
                                      by_cases b12 : 0 < h
                                      · have d12 : decide (0 < h) = true := decide_eq_true b12
                                        by_cases b13 : f = 0
                                        · have HE4 := Lib.hid (hs2.trans (by rw [stopE_hold g1' g2 b5 g3 (.inr ⟨b12, b13⟩)]; first | done | exact if_pos (by decide)))
                                          clear hs2 hn1 hLg hfr g1' hq g2 g3
                                          have d13 : (f == 0) = true := by simpa using b13
                                          clear b13
                                          go_wp2
                                          go_quiet (fail)
                                          go_wp2
                                          go_quiet (fail)
                                          go_wp2
                                          refine wp_region_calm _ (by kernel_rfl) (by kernel_rfl) (bel_drewN (Below.refl _ _) _) ?_
                                          repeat
                                            first
                                            | go_big_quiet_skip
                                            | (go_big_quiet_want
                                               apply calm_val
                                               focus
                                                 intro w' hw'
                                                 obtain ⟨bc, bp⟩ := calm_cell hw'
                                                 go_simp
                                                 first | done | rfl | exact rfl
                                               (try simp only [Act.put, List.setIfInBounds_toArray, List.set_cons_zero, List.set_cons_succ])
                                               go_big_quiet_on)
                                            | (go_big_quiet_want
                                               apply calm_enter (f := 154)
                                               focus
                                                 intro w' hw'
                                                 go_simp
                                                 first | done | rfl | exact rfl
                                               focus
                                                 intro w' hw'
                                                 have hw2 : Below _ _ w' := hw'
                                                 exact HL.out () w' (by repeat (first | exact Below.refl _ _ | assumption | refine bel_drewN ?_ _ | refine Below.drew ?_ | refine bel_alloc ?_ _ | refine Below.setCell ?_ (by first | omega | (simp; done) | (simp; omega)) _ | refine bel_step ?_ (by assumption)))
                                               (try simp only [Act.put, List.setIfInBounds_toArray, List.set_cons_zero, List.set_cons_succ])
                                               go_big_quiet_on)
                                          refine wpQuiet_nil ?_
                                          intro w1 hw1
                                          have hw2 : Below _ _ w1 := hw1
                                          clear hw1
                                          go_wp2
                                          go_ret
                                          exact Ret.mk' (by rw [HE4.out]; rfl) (by repeat (first | exact Below.refl _ _ | assumption | refine bel_drewN ?_ _ | refine Below.drew ?_ | refine bel_alloc ?_ _ | refine Below.setCell ?_ (by first | omega | (simp; done) | (simp; omega)) _ | refine bel_step ?_ (by assumption)))
                                        · have HR2 := Lib.hid (hs2.trans (show _ = stopsE p i (lastOf e.stops (k + 1)) (e.stops.drop (k + 1)) by rw [stopE_ok g1' g2 b5 g3 (by show ¬ ((h < 0 ∨ ((longestN p.evs i ((q : Int) + 1) : Nat) : Int) < h) ∨ (0 < h ∧ f = 0)); rw [hLg]; omega), if_neg (by decide), HN2.out]))
                                          have d13 : (f == 0) = false := by simpa using b13
                                          clear hs2 hn1 hLg hfr g1' hq g2 g3 b13
                                          go_wp2
                                          go_quiet (fail)
                                          go_wp2
                                          go_quiet (fail)
                                          go_wp2
                                          refine wp_region_calm _ (by kernel_rfl) (by kernel_rfl) (bel_drewN (Below.refl _ _) _) ?_
                                          repeat
                                            first
                                            | go_big_quiet_skip
                                            | (go_big_quiet_want
                                               apply calm_val
                                               focus
                                                 intro w' hw'
                                                 obtain ⟨bc, bp⟩ := calm_cell hw'
                                                 go_simp
                                                 first | done | rfl | exact rfl
                                               (try simp only [Act.put, List.setIfInBounds_toArray, List.set_cons_zero, List.set_cons_succ])
                                               go_big_quiet_on)
                                            | (go_big_quiet_want
                                               apply calm_enter (f := 154)
                                               focus
                                                 intro w' hw'
                                                 go_simp
                                                 first | done | rfl | exact rfl
                                               focus
                                                 intro w' hw'
                                                 have hw2 : Below _ _ w' := hw'
                                                 exact HL.out () w' (by repeat (first | exact Below.refl _ _ | assumption | refine bel_drewN ?_ _ | refine Below.drew ?_ | refine bel_alloc ?_ _ | refine Below.setCell ?_ (by first | omega | (simp; done) | (simp; omega)) _ | refine bel_step ?_ (by assumption)))
                                               (try simp only [Act.put, List.setIfInBounds_toArray, List.set_cons_zero, List.set_cons_succ])
                                               go_big_quiet_on)
                                          refine wpQuiet_nil ?_
                                          intro w1 hw1
                                          have hw2 : Below _ _ w1 := hw1
                                          clear hw1
                                          go_wp2
                                          go_roundw
                                          case rel => exact ⟨k + 1, by omega, by go_num, HR2.out, (by repeat (first | exact Below.refl _ _ | assumption | refine bel_drewN ?_ _ | refine Below.drew ?_ | refine bel_alloc ?_ _ | refine Below.setCell ?_ (by first | omega | (simp; done) | (simp; omega)) _ | refine bel_step ?_ (by assumption))), Blk.after (by repeat (first | with_reducible exact KB.out | with_reducible refine Blk.drew ?_ | with_reducible refine Blk.drewN ?_ _ | with_reducible refine Blk.alloc ?_ _)) hw2, Blk.after (by repeat (first | with_reducible exact KE.out | with_reducible refine Blk.drew ?_ | with_reducible refine Blk.drewN ?_ _ | with_reducible refine Blk.alloc ?_ _)) hw2⟩
                                          case measure => simp [intOf]; omega
                                      · have hh0 : h = 0 := by omega
                                        have HR2 := Lib.hid (hs2.trans (show _ = stopsE p i (lastOf e.stops (k + 1)) (e.stops.drop (k + 1)) by rw [stopE_ok g1' g2 b5 g3 (by show ¬ ((h < 0 ∨ ((longestN p.evs i ((q : Int) + 1) : Nat) : Int) < h) ∨ (0 < h ∧ f = 0)); rw [hLg]; omega), if_neg (by decide), HN2.out]))
                                        have d14 : decide ((Lg : Int) < 0) = false := decide_eq_false (by omega)
                                        clear hs2 hn1 hLg hfr g1' hq g2 g3 d10 d11 b10 b11 b12
                                        subst hh0
                                        go_wp2
                                        go_quiet (fail)
                                        go_wp2
                                        go_quiet (fail)
                                        go_wp2
                                        refine wp_region_calm _ (by kernel_rfl) (by kernel_rfl) (bel_drewN (Below.refl _ _) _) ?_
                                        repeat
                                          first
                                          | go_big_quiet_skip
                                          | (go_big_quiet_want
                                             apply calm_val
                                             focus
                                               intro w' hw'
                                               obtain ⟨bc, bp⟩ := calm_cell hw'
                                               go_simp
                                               first | done | rfl | exact rfl
                                             (try simp only [Act.put, List.setIfInBounds_toArray, List.set_cons_zero, List.set_cons_succ])
                                             go_big_quiet_on)
                                          | (go_big_quiet_want
                                             apply calm_enter (f := 154)
                                             focus
                                               intro w' hw'
                                               go_simp
                                               first | done | rfl | exact rfl
                                             focus
                                               intro w' hw'
                                               have hw2 : Below _ _ w' := hw'
                                               exact HL.out () w' (by repeat (first | exact Below.refl _ _ | assumption | refine bel_drewN ?_ _ | refine Below.drew ?_ | refine bel_alloc ?_ _ | refine Below.setCell ?_ (by first | omega | (simp; done) | (simp; omega)) _ | refine bel_step ?_ (by assumption)))
                                             (try simp only [Act.put, List.setIfInBounds_toArray, List.set_cons_zero, List.set_cons_succ])
                                             go_big_quiet_on)
                                        refine wpQuiet_nil ?_
                                        intro w1 hw1
                                        have hw2 : Below _ _ w1 := hw1
                                        clear hw1
                                        go_wp2
                                        go_roundw
                                        case rel => exact ⟨k + 1, by omega, by go_num, HR2.out, (by repeat (first | exact Below.refl _ _ | assumption | refine bel_drewN ?_ _ | refine Below.drew ?_ | refine bel_alloc ?_ _ | refine Below.setCell ?_ (by first | omega | (simp; done) | (simp; omega)) _ | refine bel_step ?_ (by assumption))), Blk.after (by repeat (first | with_reducible exact KB.out | with_reducible refine Blk.drew ?_ | with_reducible refine Blk.drewN ?_ _ | with_reducible refine Blk.alloc ?_ _)) hw2, Blk.after (by repeat (first | with_reducible exact KE.out | with_reducible refine Blk.drew ?_ | with_reducible refine Blk.drewN ?_ _ | with_reducible refine Blk.alloc ?_ _)) hw2⟩
                                        case measure => simp [intOf]; omega
                        · obtain ⟨k', hk'⟩ : ∃ k', k = k' + 1 := ⟨k - 1, by omega⟩
                          have hpv := hprev k' hk'
                          have dk1 : decide ((0 : Int) < (k : Int)) = true := decide_eq_true (by omega)
                          have dk2 : decide (0 < k) = true := decide_eq_true hk0
                          have hkm : k' < m := by omega
                          have dk3 : IntKind.i64.wrap ((k : Int) - 1) = (k' : Int) := by rw [show ((k : Int) - 1) = (k' : Int) by omega]; exact IntWalk.i64_in _ (by omega)
                          have dk4 : (k : Int) - 1 = (k' : Int) := by omega
                          clear hprev hlast0 hk'
                          by_cases b5 : (q : Int) + 1 ≤ last
                          · have HE4 := Lib.hid (hs2.trans (by rw [stopE_order g1' g2 b5]; first | done | exact if_pos (by decide)))
                            clear hs2 hn1 hLg hfr g1' hq g2
                            have d5 : decide ((q : Int) + 1 ≤ last) = true := decide_eq_true b5
                            go_wp2
                            go_quiet (fail)
                            go_wp2
                            go_quiet (fail)
                            go_wp2
                            go_ret
                            exact Ret.mk' (by rw [HE4.out]; rfl) (by repeat (first | exact Below.refl _ _ | assumption | refine bel_drewN ?_ _ | refine Below.drew ?_ | refine bel_alloc ?_ _ | refine Below.setCell ?_ (by first | omega | (simp; done) | (simp; omega)) _ | refine bel_step ?_ (by assumption)))
                          · have d5 : decide ((q : Int) + 1 ≤ last) = false := decide_eq_false b5
                            by_cases b6 : r < 0
                            · have HE4 := Lib.hid (hs2.trans (by rw [stopE_mark g1' g2 b5 (.inl (.inl b6))]; first | done | exact if_pos (by decide)))
                              clear hs2 hn1 hLg hfr g1' hq g2
                              go_wp2
                              go_quiet (fail)
                              go_wp2
                              go_quiet (fail)
                              go_wp2
                              go_ret
                              exact Ret.mk' (by rw [HE4.out]; rfl) (by repeat (first | exact Below.refl _ _ | assumption | refine bel_drewN ?_ _ | refine Below.drew ?_ | refine bel_alloc ?_ _ | refine Below.setCell ?_ (by first | omega | (simp; done) | (simp; omega)) _ | refine bel_step ?_ (by assumption)))
                            · have t_b6 := b6
                              by_cases b7 : 3 < r
                              · have HE4 := Lib.hid (hs2.trans (by rw [stopE_mark g1' g2 b5 (.inl (.inr b7))]; first | done | exact if_pos (by decide)))
                                clear hs2 hn1 hLg hfr g1' hq g2
                                go_wp2
                                go_quiet (fail)
                                go_wp2
                                go_quiet (fail)
                                go_wp2
                                go_ret
                                exact Ret.mk' (by rw [HE4.out]; rfl) (by repeat (first | exact Below.refl _ _ | assumption | refine bel_drewN ?_ _ | refine Below.drew ?_ | refine bel_alloc ?_ _ | refine Below.setCell ?_ (by first | omega | (simp; done) | (simp; omega)) _ | refine bel_step ?_ (by assumption)))
                              · have t_b7 := b7
                                by_cases b8 : g < 0
                                · have HE4 := Lib.hid (hs2.trans (by rw [stopE_mark g1' g2 b5 (.inr (.inl b8))]; first | done | exact if_pos (by decide)))
                                  clear hs2 hn1 hLg hfr g1' hq g2
                                  go_wp2
                                  go_quiet (fail)
                                  go_wp2
                                  go_quiet (fail)
                                  go_wp2
                                  go_ret
                                  exact Ret.mk' (by rw [HE4.out]; rfl) (by repeat (first | exact Below.refl _ _ | assumption | refine bel_drewN ?_ _ | refine Below.drew ?_ | refine bel_alloc ?_ _ | refine Below.setCell ?_ (by first | omega | (simp; done) | (simp; omega)) _ | refine bel_step ?_ (by assumption)))
                                · have t_b8 := b8
                                  by_cases b9 : 4 < g
                                  · have HE4 := Lib.hid (hs2.trans (by rw [stopE_mark g1' g2 b5 (.inr (.inr b9))]; first | done | exact if_pos (by decide)))
                                    clear hs2 hn1 hLg hfr g1' hq g2
                                    go_wp2
                                    go_quiet (fail)
                                    go_wp2
                                    go_quiet (fail)
                                    go_wp2
                                    go_ret
                                    exact Ret.mk' (by rw [HE4.out]; rfl) (by repeat (first | exact Below.refl _ _ | assumption | refine bel_drewN ?_ _ | refine Below.drew ?_ | refine bel_alloc ?_ _ | refine Below.setCell ?_ (by first | omega | (simp; done) | (simp; omega)) _ | refine bel_step ?_ (by assumption)))
                                  · have t_b9 := b9
                                    have g3 : ¬ ((r < 0 ∨ 3 < r) ∨ (g < 0 ∨ 4 < g)) := by omega
                                    clear t_b6 t_b7 t_b8 t_b9
                                    by_cases b10 : h < 0
                                    · have HE4 := Lib.hid (hs2.trans (by rw [stopE_hold g1' g2 b5 g3 (.inl (.inl b10))]; first | done | exact if_pos (by decide)))
                                      clear hs2 hn1 hLg hfr g1' hq g2 g3
                                      have d10 : decide (h < 0) = true := decide_eq_true b10
                                      go_wp2
                                      go_quiet (fail)
                                      go_wp2
                                      go_quiet (fail)
                                      go_wp2
                                      go_quiet (fail)
                                      go_wp2
                                      go_ret
                                      exact Ret.mk' (by rw [HE4.out]; rfl) (by repeat (first | exact Below.refl _ _ | assumption | refine bel_drewN ?_ _ | refine Below.drew ?_ | refine bel_alloc ?_ _ | refine Below.setCell ?_ (by first | omega | (simp; done) | (simp; omega)) _ | refine bel_step ?_ (by assumption)))
                                    · have d10 : decide (h < 0) = false := decide_eq_false b10
                                      by_cases b11 : (Lg : Int) < h
                                      · have HE4 := Lib.hid (hs2.trans (by rw [stopE_hold g1' g2 b5 g3 (.inl (.inr (by show ((longestN p.evs i ((q : Int) + 1) : Nat) : Int) < h; rw [hLg]; exact b11)))]; first | done | exact if_pos (by decide)))
                                        clear hs2 hn1 hLg hfr g1' hq g2 g3
                                        have d11 : decide ((Lg : Int) < h) = true := decide_eq_true b11
                                        go_wp2
                                        go_quiet (fail)
                                        go_wp2
                                        go_quiet (fail)
                                        go_wp2
                                        refine wp_region_calm _ (by kernel_rfl) (by kernel_rfl) (bel_drewN (Below.refl _ _) _) ?_
                                        repeat
                                          first
                                          | go_big_quiet_skip
                                          | (go_big_quiet_want
                                             apply calm_val
                                             focus
                                               intro w' hw'
                                               obtain ⟨bc, bp⟩ := calm_cell hw'
                                               go_simp
                                               first | done | rfl | exact rfl
                                             (try simp only [Act.put, List.setIfInBounds_toArray, List.set_cons_zero, List.set_cons_succ])
                                             go_big_quiet_on)
                                          | (go_big_quiet_want
                                             apply calm_enter (f := 154)
                                             focus
                                               intro w' hw'
                                               go_simp
                                               first | done | rfl | exact rfl
                                             focus
                                               intro w' hw'
                                               have hw2 : Below _ _ w' := hw'
                                               exact HL.out () w' (by repeat (first | exact Below.refl _ _ | assumption | refine bel_drewN ?_ _ | refine Below.drew ?_ | refine bel_alloc ?_ _ | refine Below.setCell ?_ (by first | omega | (simp; done) | (simp; omega)) _ | refine bel_step ?_ (by assumption)))
                                             (try simp only [Act.put, List.setIfInBounds_toArray, List.set_cons_zero, List.set_cons_succ])
                                             go_big_quiet_on)
                                        refine wpQuiet_nil ?_
                                        intro w1 hw1
                                        have hw2 : Below _ _ w1 := hw1
                                        clear hw1
                                        go_wp2
                                        go_ret
                                        exact Ret.mk' (by rw [HE4.out]; rfl) (by repeat (first | exact Below.refl _ _ | assumption | refine bel_drewN ?_ _ | refine Below.drew ?_ | refine bel_alloc ?_ _ | refine Below.setCell ?_ (by first | omega | (simp; done) | (simp; omega)) _ | refine bel_step ?_ (by assumption)))
                                      · have d11 : decide ((Lg : Int) < h) = false := decide_eq_false b11
                                        by_cases b12 : 0 < h
                                        · have d12 : decide (0 < h) = true := decide_eq_true b12
                                          by_cases b13 : f = 0
                                          · have HE4 := Lib.hid (hs2.trans (by rw [stopE_hold g1' g2 b5 g3 (.inr ⟨b12, b13⟩)]; first | done | exact if_pos (by decide)))
                                            clear hs2 hn1 hLg hfr g1' hq g2 g3
                                            have d13 : (f == 0) = true := by simpa using b13
                                            clear b13
                                            go_wp2
                                            go_quiet (fail)
                                            go_wp2
                                            go_quiet (fail)
                                            go_wp2
                                            refine wp_region_calm _ (by kernel_rfl) (by kernel_rfl) (bel_drewN (Below.refl _ _) _) ?_
                                            repeat
                                              first
                                              | go_big_quiet_skip
                                              | (go_big_quiet_want
                                                 apply calm_val
                                                 focus
                                                   intro w' hw'
                                                   obtain ⟨bc, bp⟩ := calm_cell hw'
                                                   go_simp
                                                   first | done | rfl | exact rfl
                                                 (try simp only [Act.put, List.setIfInBounds_toArray, List.set_cons_zero, List.set_cons_succ])
                                                 go_big_quiet_on)
                                              | (go_big_quiet_want
                                                 apply calm_enter (f := 154)
                                                 focus
                                                   intro w' hw'
                                                   go_simp
                                                   first | done | rfl | exact rfl
                                                 focus
                                                   intro w' hw'
                                                   have hw2 : Below _ _ w' := hw'
                                                   exact HL.out () w' (by repeat (first | exact Below.refl _ _ | assumption | refine bel_drewN ?_ _ | refine Below.drew ?_ | refine bel_alloc ?_ _ | refine Below.setCell ?_ (by first | omega | (simp; done) | (simp; omega)) _ | refine bel_step ?_ (by assumption)))
                                                 (try simp only [Act.put, List.setIfInBounds_toArray, List.set_cons_zero, List.set_cons_succ])
                                                 go_big_quiet_on)
                                            refine wpQuiet_nil ?_
                                            intro w1 hw1
                                            have hw2 : Below _ _ w1 := hw1
                                            clear hw1
                                            go_wp2
                                            go_ret
                                            exact Ret.mk' (by rw [HE4.out]; rfl) (by repeat (first | exact Below.refl _ _ | assumption | refine bel_drewN ?_ _ | refine Below.drew ?_ | refine bel_alloc ?_ _ | refine Below.setCell ?_ (by first | omega | (simp; done) | (simp; omega)) _ | refine bel_step ?_ (by assumption)))
                                          · have HR2 := Lib.hid (hs2.trans (show _ = stopsE p i (lastOf e.stops (k + 1)) (e.stops.drop (k + 1)) by rw [stopE_ok g1' g2 b5 g3 (by show ¬ ((h < 0 ∨ ((longestN p.evs i ((q : Int) + 1) : Nat) : Int) < h) ∨ (0 < h ∧ f = 0)); rw [hLg]; omega), if_neg (by decide), HN2.out]))
                                            have d13 : (f == 0) = false := by simpa using b13
                                            clear hs2 hn1 hLg hfr g1' hq g2 g3 b13
                                            go_wp2
                                            go_quiet (fail)
                                            go_wp2
                                            go_quiet (fail)
                                            go_wp2
                                            refine wp_region_calm _ (by kernel_rfl) (by kernel_rfl) (bel_drewN (Below.refl _ _) _) ?_
                                            repeat
                                              first
                                              | go_big_quiet_skip
                                              | (go_big_quiet_want
                                                 apply calm_val
                                                 focus
                                                   intro w' hw'
                                                   obtain ⟨bc, bp⟩ := calm_cell hw'
                                                   go_simp
                                                   first | done | rfl | exact rfl
                                                 (try simp only [Act.put, List.setIfInBounds_toArray, List.set_cons_zero, List.set_cons_succ])
                                                 go_big_quiet_on)
                                              | (go_big_quiet_want
                                                 apply calm_enter (f := 154)
                                                 focus
                                                   intro w' hw'
                                                   go_simp
                                                   first | done | rfl | exact rfl
                                                 focus
                                                   intro w' hw'
                                                   have hw2 : Below _ _ w' := hw'
                                                   exact HL.out () w' (by repeat (first | exact Below.refl _ _ | assumption | refine bel_drewN ?_ _ | refine Below.drew ?_ | refine bel_alloc ?_ _ | refine Below.setCell ?_ (by first | omega | (simp; done) | (simp; omega)) _ | refine bel_step ?_ (by assumption)))
                                                 (try simp only [Act.put, List.setIfInBounds_toArray, List.set_cons_zero, List.set_cons_succ])
                                                 go_big_quiet_on)
                                            refine wpQuiet_nil ?_
                                            intro w1 hw1
                                            have hw2 : Below _ _ w1 := hw1
                                            clear hw1
                                            go_wp2
                                            go_roundw
                                            case rel => exact ⟨k + 1, by omega, by go_num, HR2.out, (by repeat (first | exact Below.refl _ _ | assumption | refine bel_drewN ?_ _ | refine Below.drew ?_ | refine bel_alloc ?_ _ | refine Below.setCell ?_ (by first | omega | (simp; done) | (simp; omega)) _ | refine bel_step ?_ (by assumption))), Blk.after (by repeat (first | with_reducible exact KB.out | with_reducible refine Blk.drew ?_ | with_reducible refine Blk.drewN ?_ _ | with_reducible refine Blk.alloc ?_ _)) hw2, Blk.after (by repeat (first | with_reducible exact KE.out | with_reducible refine Blk.drew ?_ | with_reducible refine Blk.drewN ?_ _ | with_reducible refine Blk.alloc ?_ _)) hw2⟩
                                            case measure => simp [intOf]; omega
                                        · have hh0 : h = 0 := by omega
                                          have HR2 := Lib.hid (hs2.trans (show _ = stopsE p i (lastOf e.stops (k + 1)) (e.stops.drop (k + 1)) by rw [stopE_ok g1' g2 b5 g3 (by show ¬ ((h < 0 ∨ ((longestN p.evs i ((q : Int) + 1) : Nat) : Int) < h) ∨ (0 < h ∧ f = 0)); rw [hLg]; omega), if_neg (by decide), HN2.out]))
                                          have d14 : decide ((Lg : Int) < 0) = false := decide_eq_false (by omega)
                                          clear hs2 hn1 hLg hfr g1' hq g2 g3 d10 d11 b10 b11 b12
                                          subst hh0
                                          go_wp2
                                          go_quiet (fail)
                                          go_wp2
                                          go_quiet (fail)
                                          go_wp2
                                          refine wp_region_calm _ (by kernel_rfl) (by kernel_rfl) (bel_drewN (Below.refl _ _) _) ?_
                                          repeat
                                            first
                                            | go_big_quiet_skip
                                            | (go_big_quiet_want
                                               apply calm_val
                                               focus
                                                 intro w' hw'
                                                 obtain ⟨bc, bp⟩ := calm_cell hw'
                                                 go_simp
                                                 first | done | rfl | exact rfl
                                               (try simp only [Act.put, List.setIfInBounds_toArray, List.set_cons_zero, List.set_cons_succ])
                                               go_big_quiet_on)
                                            | (go_big_quiet_want
                                               apply calm_enter (f := 154)
                                               focus
                                                 intro w' hw'
                                                 go_simp
                                                 first | done | rfl | exact rfl
                                               focus
                                                 intro w' hw'
                                                 have hw2 : Below _ _ w' := hw'
                                                 exact HL.out () w' (by repeat (first | exact Below.refl _ _ | assumption | refine bel_drewN ?_ _ | refine Below.drew ?_ | refine bel_alloc ?_ _ | refine Below.setCell ?_ (by first | omega | (simp; done) | (simp; omega)) _ | refine bel_step ?_ (by assumption)))
                                               (try simp only [Act.put, List.setIfInBounds_toArray, List.set_cons_zero, List.set_cons_succ])
                                               go_big_quiet_on)
                                          refine wpQuiet_nil ?_
                                          intro w1 hw1
                                          have hw2 : Below _ _ w1 := hw1
                                          clear hw1
                                          go_wp2
                                          go_roundw
                                          case rel => exact ⟨k + 1, by omega, by go_num, HR2.out, (by repeat (first | exact Below.refl _ _ | assumption | refine bel_drewN ?_ _ | refine Below.drew ?_ | refine bel_alloc ?_ _ | refine Below.setCell ?_ (by first | omega | (simp; done) | (simp; omega)) _ | refine bel_step ?_ (by assumption))), Blk.after (by repeat (first | with_reducible exact KB.out | with_reducible refine Blk.drew ?_ | with_reducible refine Blk.drewN ?_ _ | with_reducible refine Blk.alloc ?_ _)) hw2, Blk.after (by repeat (first | with_reducible exact KE.out | with_reducible refine Blk.drew ?_ | with_reducible refine Blk.drewN ?_ _ | with_reducible refine Blk.alloc ?_ _)) hw2⟩
                                          case measure => simp [intOf]; omega
              · have HE4 := Lib.hid (HR.out.trans (show stopsE p i (lastOf e.stops k) (e.stops.drop k) = 0 from by rw [List.drop_eq_nil_of_le (by have := HM.out; omega)]; rfl))
                go_wp2
                go_ret
                exact Ret.mk' (by rw [HE4.out]; rfl) (by repeat (first | exact Below.refl _ _ | assumption | refine bel_drewN ?_ _ | refine Below.drew ?_ | refine bel_alloc ?_ _ | refine Below.setCell ?_ (by first | omega | (simp; done) | (simp; omega)) _ | refine bel_step ?_ (by assumption)))
        · subst hm0
          rw [ht] at f4
          have hV0 : V = 0 := by
            have h1 := HV.out
            have h2 := HM.out
            rw [List.eq_nil_of_length_eq_zero h2] at h1
            exact h1.symm
          subst hV0
          clear ht
          rcases hz with ⟨d1, d2⟩ | ⟨d1, d2⟩
          · clear hi0
            go_enter Tryz.func94, Tryz.ntmps94
            go_wp2_with (go_at_call 153; refine (KV.out _).mono ?_; rintro e' w1 ⟨rfl, hb1⟩; have kx : Blk w1 (w.heap.size + 1) 78 #[.bool e.bar, .int .i64 e.val, .bool e.dot, .bool e.three, .bool true, .slice S 0 c] := Blk.after (blk_new' (by simp)) hb1; have kp := ((Blk.new _ _ _).alloc _).after hb1; have x0 : w1.cell? ⟨w.heap.size + 1, 0, none⟩ = some (.bool e.bar) := kx.cell 0; have x1 : w1.cell? ⟨w.heap.size + 1, 1, none⟩ = some (.int .i64 e.val) := kx.cell 1; have x2 : w1.cell? ⟨w.heap.size + 1, 2, none⟩ = some (.bool e.dot) := kx.cell 2; have x3 : w1.cell? ⟨w.heap.size + 1, 3, none⟩ = some (.bool e.three) := kx.cell 3; have x4 : w1.cell? ⟨w.heap.size + 1, 4, none⟩ = some (.bool true) := kx.cell 4; have x5 : w1.cell? ⟨w.heap.size + 1, 5, none⟩ = some (.slice S 0 c) := kx.cell 5; have p0 : w1.cell? ⟨w.heap.size, 0, none⟩ = some (.slice A1 n1 c1) := kp.cell 0; have p1 : w1.cell? ⟨w.heap.size, 1, none⟩ = some (.slice A2 n2 c2) := kp.cell 1; have p2 : w1.cell? ⟨w.heap.size, 2, none⟩ = some (.slice (some ad) n3 c3) := kp.cell 2; have KX := Lib.hid kx; have KP := Lib.hid kp; clear kx kp)
            go_loopw [6] (fun v wr => v = .int .i64 0 ∧ Below w.heap.size w wr ∧ Blk wr (w.heap.size + 1) 78 #[.bool e.bar, .int .i64 e.val, .bool e.dot, .bool e.three, .bool true, .slice S 0 c]) (fun _ _ => 0)
            case atStart => exact ⟨rfl, (by repeat (first | exact Below.refl _ _ | assumption | refine bel_drewN ?_ _ | refine Below.drew ?_ | refine bel_alloc ?_ _ | refine Below.setCell ?_ (by first | omega | (simp; done) | (simp; omega)) _ | refine bel_step ?_ (by assumption))), KX.out⟩
            case round =>
              obtain ⟨rfl, hbel, hblk⟩ := hrel
              have z5 : wr.cell? ⟨w.heap.size + 1, 5, none⟩ = some (.slice S 0 c) := hblk.cell 5
              go_wp2
              go_ret
              exact Ret.mk' rfl (by repeat (first | exact Below.refl _ _ | assumption | refine bel_drewN ?_ _ | refine Below.drew ?_ | refine bel_alloc ?_ _ | refine Below.setCell ?_ (by first | omega | (simp; done) | (simp; omega)) _ | refine bel_step ?_ (by assumption)))
          · rw [hi0] at d1; cases d1
end Go.Proofs.YtkgnmddakiagbaaGreatDoor
