/- Whether a piece is too big: the law's own look. -/
import Derived.Test.YteldgllgagjciaaPieP
import Derived.Test.YteldgllgagjciaaProg
import Derived.Lib.Hide
namespace Go.Proofs.Yteldgllgagjciaa
open Go.RowKit
set_option maxHeartbeats 1600000
set_option maxRecDepth 100000
set_option linter.unusedVariables false
set_option linter.unusedSimpArgs false
theorem big_any (M : PM) (p : Pce) (w : World) (hP : PcAt w w.heap.size M p) : Calls Try.prog 32 #[pcValue M p] w (Ret (.bool (bigB p)) w) := by
  obtain ⟨A1, A2, A3, c1, c2, c3⟩ := M
  obtain ⟨cs, st, evs⟩ := p
  unfold pcValue
  simp only at *
  have HP := Lib.hid hP.2.1
  obtain ⟨n1, hn1⟩ : ∃ n, cs.length = n := ⟨_, rfl⟩
  obtain ⟨n2, hn2⟩ : ∃ n, st.length = n := ⟨_, rfl⟩
  obtain ⟨n3, hn3⟩ : ∃ n, evs.length = n := ⟨_, rfl⟩
  have HN3 := Lib.hid hn3
  have hB : bigB ⟨cs, st, evs⟩ = (decide (64 < n1) || (decide (64 < n2) || (decide (420 < n3) || evs.any fun e => decide (20 < e.stops.length)))) := by unfold bigB; rw [hn1, hn2, hn3]
  rw [hB, hn1, hn2, hn3]
  clear hB hn1 hn2 hn3 hP
  by_cases b1 : 64 < n1
  · have e : (decide (64 < n1) || (decide (64 < n2) || (decide (420 < n3) || evs.any fun e => decide (20 < e.stops.length)))) = true := by simp [b1]
    rw [e]
    clear e
    go_enter Try.func32, Try.ntmps32
    go_wp2
    go_ret
    exact Ret.mk' rfl (by repeat (first | exact Below.refl _ _ | assumption | refine bel_drewN ?_ _ | refine Below.drew ?_ | refine bel_alloc ?_ _ | refine Below.setCell ?_ (by first | omega | (simp; done) | (simp; omega)) _ | refine bel_step ?_ (by assumption)))
  · by_cases b2 : 64 < n2
    · have e : (decide (64 < n1) || (decide (64 < n2) || (decide (420 < n3) || evs.any fun e => decide (20 < e.stops.length)))) = true := by simp [b2]
      rw [e]
      clear e
      go_enter Try.func32, Try.ntmps32
      go_wp2
      go_ret
      exact Ret.mk' rfl (by repeat (first | exact Below.refl _ _ | assumption | refine bel_drewN ?_ _ | refine Below.drew ?_ | refine bel_alloc ?_ _ | refine Below.setCell ?_ (by first | omega | (simp; done) | (simp; omega)) _ | refine bel_step ?_ (by assumption)))
    · by_cases b3 : 420 < n3
      · have e : (decide (64 < n1) || (decide (64 < n2) || (decide (420 < n3) || evs.any fun e => decide (20 < e.stops.length)))) = true := by simp [b3]
        rw [e]
        clear e
        go_enter Try.func32, Try.ntmps32
        go_wp2
        go_ret
        exact Ret.mk' rfl (by repeat (first | exact Below.refl _ _ | assumption | refine bel_drewN ?_ _ | refine Below.drew ?_ | refine bel_alloc ?_ _ | refine Below.setCell ?_ (by first | omega | (simp; done) | (simp; omega)) _ | refine bel_step ?_ (by assumption)))
      · have e : (decide (64 < n1) || (decide (64 < n2) || (decide (420 < n3) || evs.any fun e => decide (20 < e.stops.length)))) = evs.any fun e => decide (20 < e.stops.length) := by simp [b1, b2, b3]
        rw [e]
        clear e
        obtain ⟨V, hV⟩ : ∃ V, (evs.any fun e => decide (20 < e.stops.length)) = V := ⟨_, rfl⟩
        rw [hV]
        have HV := Lib.hid hV
        clear hV
        go_enter Try.func32, Try.ntmps32
        go_wp2
        go_loop [3] (fun i => ∃ k : Nat, k ≤ n3 ∧ i = .int .i64 k ∧ V = (evs.drop k).any fun e => decide (20 < e.stops.length)) (fun i => n3 - (intOf i).toNat)
        case atStart => exact ⟨0, Nat.zero_le _, rfl, HV.out.symm⟩
        case round =>
          obtain ⟨k, hk, rfl, hs⟩ := hrel
          have HS := Lib.hid hs
          clear hs
          by_cases hlt : k < n3
          · have hk2 : k < evs.length := by have := HN3.out; omega
            obtain ⟨ad, S, c, hA, hb, _, _, _, _, _, hc, _⟩ := HP.out.ev hk2
            subst hA
            have hs2 := HS.out.trans (any_at hk2)
            generalize evs[k] = e at hc hs2
            have hc2 : ∀ o : Obj, (w.alloc o).cell? ⟨(ad.add (k * 6)).block, (ad.add (k * 6)).off + 5, none⟩ = some (.slice S e.stops.length c) := fun o => by
              rw [World.cell?_alloc_lt _ _ _ (by rw [block_of_add]; omega), hc]
            clear hc
            generalize e.stops.length = n at *
            by_cases hb1 : 20 < n
            · have HE := Lib.hid (hs2.trans (show _ = true by simp [hb1]))
              clear hs2
              go_wp2
              go_ret
              exact Ret.mk' (by rw [HE.out]; rfl) (by repeat (first | exact Below.refl _ _ | assumption | refine bel_drewN ?_ _ | refine Below.drew ?_ | refine bel_alloc ?_ _ | refine Below.setCell ?_ (by first | omega | (simp; done) | (simp; omega)) _ | refine bel_step ?_ (by assumption)))
            · have HS3 := Lib.hid (hs2.trans (show _ = (evs.drop (k + 1)).any fun e => decide (20 < e.stops.length) by simp [hb1]))
              clear hs2
              go_wp2
              go_round
              case rel => exact ⟨k + 1, by omega, by go_num, HS3.out⟩
              case measure => simp [intOf]; omega
          · have HE := Lib.hid (HS.out.trans (show ((evs.drop k).any fun e => decide (20 < e.stops.length)) = false from by rw [List.drop_eq_nil_of_le (by have := HN3.out; omega)]; rfl))
            go_wp2
            go_ret
            exact Ret.mk' (by rw [HE.out]; rfl) (by repeat (first | exact Below.refl _ _ | assumption | refine bel_drewN ?_ _ | refine Below.drew ?_ | refine bel_alloc ?_ _ | refine Below.setCell ?_ (by first | omega | (simp; done) | (simp; omega)) _ | refine bel_step ?_ (by assumption)))
end Go.Proofs.Yteldgllgagjciaa
