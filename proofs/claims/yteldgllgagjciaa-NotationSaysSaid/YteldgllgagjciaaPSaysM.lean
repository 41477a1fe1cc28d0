/- THE STATEMENT NotationSays: for every input the call returns true, and each argument reads afterwards as it read before. No condition. -/
import Derived.Test.YteldgllgagjciaaLk1
import Derived.Test.YteldgllgagjciaaLkB
import Derived.Test.YteldgllgagjciaaPCh
import Derived.Test.YteldgllgagjciaaLk2
import Derived.Test.YteldgllgagjciaaLk3
import Derived.Test.YteldgllgagjciaaBig
import Derived.Test.YteldgllgagjciaaREv
import Derived.Test.YteldgllgagjciaaChQ
import Derived.Test.YteldgllgagjciaaRIns
import Derived.Test.YteldgllgagjciaaCpP
import Derived.Test.YteldgllgagjciaaWorks
import Derived.Test.YteldgllgagjciaaCalm
import Derived.Test.YteldgllgagjciaaRows
import Derived.ProofKit
import Derived.OpenShut
import Derived.ChangeMaps5
import Derived.Lib.SmallJoins
import Derived.Test.YteldgllgagjciaaFr
import Derived.Test.YteldgllgagjciaaOp
import Derived.Test.YteldgllgagjciaaOp2

/- What a system lacks of a piece: the program, in one system. -/
namespace Go.Proofs.Yteldgllgagjciaa
open Go.RowKit
set_option maxHeartbeats 4000000
set_option maxRecDepth 100000
set_option linter.unusedVariables false
set_option linter.unusedSimpArgs false
theorem pLacks_1 (M : PM) (p : Pce) (w : World) (hP : PcAt w w.heap.size M p) (hO : PcOk p) (h0 : pceE p = 0) :
    Calls Try.prog 62 #[.int .u8 1, pcValue M p] w (LksPost (lksTo 1 p p.evs.length) w) := by
  have hsi := fun k hk => stopsIn_of h0 k hk
  obtain ⟨A1, A2, A3, c1, c2, c3⟩ := M
  have hn3 := hO.n3
  have hKC : ∀ w' : World, Below w.heap.size w w' → Calls Try.prog 71 #[pcValue ⟨A1, A2, A3, c1, c2, c3⟩ p] w' (Ret (.int .i64 0) w') := fun w' hb => h0 ▸ pCheck_any ⟨A1, A2, A3, c1, c2, c3⟩ p w' (hP.after hb) hO
  have hKL := fun (i : Nat) (hi : i < p.evs.length) (w' : World) (hb : Below w.heap.size w w') => plack_1 ⟨A1, A2, A3, c1, c2, c3⟩ p i hi w' (hP.after hb) hO (hsi i hi)
  have HTL := Lib.hid (fun k (hk : k ≤ p.evs.length) => lksTo_len 1 hO k hk)
  have HTS := Lib.hid (fun k (hk : k < p.evs.length) => lksTo_at 1 p hk)
  unfold pcValue at *
  simp only at *
  obtain ⟨n1, hn1⟩ : ∃ n, p.cs.length = n := ⟨_, rfl⟩
  obtain ⟨n2, hn2⟩ : ∃ n, p.st.length = n := ⟨_, rfl⟩
  obtain ⟨n3, hnn⟩ : ∃ n, p.evs.length = n := ⟨_, rfl⟩
  have HN := Lib.hid hnn
  simp only [hn1, hn2] at hKC hKL
  rw [hnn] at hKC hn3
  have hKL2 : ∀ (i : Nat) (hi : i < p.evs.length) (w' : World), Below w.heap.size w w' → Calls Try.prog 72 #[(.iface 110 (.agg #[])), .agg #[.slice A1 n1 c1, .slice A2 n2 c2, .slice A3 n3 c3], .int .i64 i] w' (LkPost (lackE 1 p i p.evs[i]) w') := by
    intro i hi w' hb
    have := hKL i hi w' hb
    rw [hnn] at this
    exact this
  rw [hn1, hn2, hnn]
  have KC := Lib.hid hKC
  have KL := Lib.hid hKL2
  obtain ⟨i0, hi0, hz0, hz1, hz2⟩ := info_parts infoLack
  clear hP hO hKC hKL hKL2 hn1 hn2 hnn hsi h0
  go_enter Try.func62, Try.ntmps62
  go_wp2_with (first
    | (go_at_call 43; refine (of_1 _).mono ?_; rintro e w' ⟨rfl, rfl⟩)
    | (go_at_call 71; refine (KC.out _ (by repeat (first | exact Below.refl _ _ | assumption | refine bel_drewN ?_ _ | refine Below.drew ?_ | refine bel_alloc ?_ _ | refine Below.setCell ?_ (by first | omega | (simp; done) | (simp; omega)) _ | refine bel_step ?_ (by assumption)))).mono ?_; rintro e' w1 ⟨rfl, hb1⟩; have k1 := (Blk.new _ _ _).after hb1; have x2 : w1.cell? ⟨w.heap.size, 2, none⟩ = some (.slice A3 n3 c3) := k1.cell 2; have K1 := Lib.hid k1; clear k1))
  go_loopw [9, 26] (fun v u wr => ∃ (k : Nat) (A : Option Addr) (d : Nat), k ≤ n3 ∧ v = .slice A (lksTo 1 p k).length d ∧ u = .int .i64 k ∧ wr.ownsRow (w.heap.size + 1) 131 3 (.slice A (lksTo 1 p k).length d) (lksTo 1 p k).length ((lksTo 1 p k).map lckCells).flatten ∧ Below w.heap.size w wr ∧ Blk wr w.heap.size 63 #[.slice A1 n1 c1, .slice A2 n2 c2, .slice A3 n3 c3]) (fun _ u _ => n3 - (intOf u).toNat)
  case atStart => exact ⟨0, none, 0, Nat.zero_le _, rfl, rfl, ⟨rfl, .inl ⟨rfl, rfl⟩⟩, (by repeat (first | exact Below.refl _ _ | assumption | refine bel_drewN ?_ _ | refine Below.drew ?_ | refine bel_alloc ?_ _ | refine Below.setCell ?_ (by first | omega | (simp; done) | (simp; omega)) _ | refine bel_step ?_ (by assumption))), K1.out⟩
  case round =>
    clear x2
    obtain ⟨k, A, d, hk, rfl, rfl, hown, hbel, hblk⟩ := hrel
    have HO := Lib.hid hown
    have HB := Lib.hid hblk
    have hlt0 : w.heap.size < wr.heap.size := hblk.lt
    have q0 : wr.cell? ⟨w.heap.size, 0, none⟩ = some (.slice A1 n1 c1) := hblk.cell 0
    have q1 : wr.cell? ⟨w.heap.size, 1, none⟩ = some (.slice A2 n2 c2) := hblk.cell 1
    have q2 : wr.cell? ⟨w.heap.size, 2, none⟩ = some (.slice A3 n3 c3) := hblk.cell 2
    clear hown hblk
    by_cases hlt : k < n3
    · have hk2 : k < p.evs.length := by have := HN.out; omega
      have hke := KL.out k hk2 wr hbel
      obtain ⟨X, hX⟩ : ∃ X, lackE 1 p k p.evs[k] = X := ⟨_, rfl⟩
      have hts := HTS.out k hk2
      rw [hX] at hke hts
      have hlen : (lksTo 1 p k ++ X).length ≤ 27000 := by
        have := HTL.out (k + 1) hk2
        rw [hts] at this
        exact this
      obtain ⟨L, hL⟩ : ∃ L, lksTo 1 p k = L := ⟨_, rfl⟩
      rw [hL] at hlen HO hts
      have KG := Lib.hid hke
      have KT := Lib.hid hts
      have HLN := Lib.hid hlen
      rw [hL]
      clear hke hX hts hL hlen
      go_wp2_with (first
        | (go_at_call 72; refine KG.out.mono ?_; rintro e' w2 ⟨A', d', rfl, hb2, hrd, hfr⟩; have HRD := Lib.hid hrd; have KP2 := Lib.hid (HB.out.after hb2); have HB2 := Lib.hid hb2; have HO2 := Lib.hid (own_keep HO.out fun g _ hlt => hb2.block g hlt); clear hb2 hrd hfr)
        | (at_builtin
           refine wpList_append_rd rfl (.tmp 29) (.tmp 33) _ rfl (w.heap.size + 1) 131 i0 _ 3 24 Try.underlying103 hi0 hz0 hz1 hz2 rfl (by omega) (.slice A L.length d) L.length (L.map lckCells) rfl HO2.out (lck_len _) (by simp) _ A' (X.map lckCells) X.length d' rfl (by simp) HRD.out (lck_len _) (lck_one _) (by have := HLN.out; simp at this; unfold maxLen; simp; omega) (by have := HLN.out; simp at this; simp; omega) (by have := KP2.out.lt; omega) ?_
           intro Q' d'' w3 hown3 hg3 hat3
           have HO3 := Lib.hid hown3
           have HG3 := Lib.hid hg3
           clear hown3 hg3 hat3))
      go_roundw
      case rel =>
        have hne : ∀ g, (Value.slice A L.length d).ownBlock = some g → w.heap.size + 1 ≤ g := fun g e => (own_lt HO2.out g e).1
        refine ⟨k + 1, Q', d'', by omega, ?_, by go_num, ?_, ?_, ?_⟩
        · rw [KT.out, List.length_append]
        · rw [KT.out, List.length_append, List.map_append]; exact HO3.out
        · exact (hbel.trans (HB2.out.mono hbel.size)).grown HG3.out (by have := hbel.size; have := HB2.out.size; omega) (fun g e => by have := hne g e; omega)
        · exact blk_grown KP2.out HG3.out (fun e => by have := hne _ e.symm; omega)
      case measure => simp [intOf]; omega
    · have hkn : k = n3 := by omega
      go_wp2
      go_ret2
      obtain ⟨A', c', hv, hrd, hat, hcap⟩ := rd_of_own (l := (lksTo 1 p k).map lckCells) HO.out (lck_len _) rfl (by simp)
      injection hv with hv1 hv2 hv3
      subst hv1
      subst hkn
      exact ⟨A, d, rfl, hbel, hrd, fun ad e => by have := (hat ad e).2; omega⟩
/-- The program answers that the piece has an error. -/
theorem pLacksE_1 (M : PM) (p : Pce) (w : World) (hP : PcAt w w.heap.size M p) (hO : PcOk p) (h0 : pceE p ≠ 0) :
    Calls Try.prog 62 #[.int .u8 1, pcValue M p] w (Ret (.tuple #[.slice none 0 0, .int .i64 (pceE p)]) w) := by
  have KC := Lib.hid (fun (w' : World) (hb : Below w.heap.size w w') => pCheck_any M p w' (hP.after hb) hO)
  obtain ⟨A1, A2, A3, c1, c2, c3⟩ := M
  unfold pcValue at *
  simp only at *
  generalize pceE p = E at *
  generalize p.cs.length = n1 at *
  generalize p.st.length = n2 at *
  generalize p.evs.length = n3 at *
  have e1 : (E == 0) = false := by simpa using h0
  have e2 : (E != 0) = true := by simpa using h0
  clear hP hO h0
  go_enter Try.func62, Try.ntmps62
  go_wp2_with (first
    | (go_at_call 43; refine (of_1 _).mono ?_; rintro e w' ⟨rfl, rfl⟩)
    | (go_at_call 71; refine (KC.out _ (by repeat (first | exact Below.refl _ _ | assumption | refine bel_drewN ?_ _ | refine Below.drew ?_ | refine bel_alloc ?_ _ | refine Below.setCell ?_ (by first | omega | (simp; done) | (simp; omega)) _ | refine bel_step ?_ (by assumption)))).mono ?_; rintro e' w1 ⟨rfl, hb1⟩))
  go_ret2
  exact Ret.mk' rfl (by repeat (first | exact Below.refl _ _ | assumption | refine bel_drewN ?_ _ | refine Below.drew ?_ | refine bel_alloc ?_ _ | refine Below.setCell ?_ (by first | omega | (simp; done) | (simp; omega)) _ | refine bel_step ?_ (by assumption)))
end Go.Proofs.Yteldgllgagjciaa

/- What a system lacks of a piece: the program, in one system. -/
namespace Go.Proofs.Yteldgllgagjciaa
open Go.RowKit
set_option maxHeartbeats 4000000
set_option maxRecDepth 100000
set_option linter.unusedVariables false
set_option linter.unusedSimpArgs false
theorem pLacks_2 (M : PM) (p : Pce) (w : World) (hP : PcAt w w.heap.size M p) (hO : PcOk p) (h0 : pceE p = 0) :
    Calls Try.prog 62 #[.int .u8 2, pcValue M p] w (LksPost (lksTo 2 p p.evs.length) w) := by
  have hsi := fun k hk => stopsIn_of h0 k hk
  obtain ⟨A1, A2, A3, c1, c2, c3⟩ := M
  have hn3 := hO.n3
  have hKC : ∀ w' : World, Below w.heap.size w w' → Calls Try.prog 71 #[pcValue ⟨A1, A2, A3, c1, c2, c3⟩ p] w' (Ret (.int .i64 0) w') := fun w' hb => h0 ▸ pCheck_any ⟨A1, A2, A3, c1, c2, c3⟩ p w' (hP.after hb) hO
  have hKL := fun (i : Nat) (hi : i < p.evs.length) (w' : World) (hb : Below w.heap.size w w') => plack_2 ⟨A1, A2, A3, c1, c2, c3⟩ p i hi w' (hP.after hb) hO (hsi i hi)
  have HTL := Lib.hid (fun k (hk : k ≤ p.evs.length) => lksTo_len 2 hO k hk)
  have HTS := Lib.hid (fun k (hk : k < p.evs.length) => lksTo_at 2 p hk)
  unfold pcValue at *
  simp only at *
  obtain ⟨n1, hn1⟩ : ∃ n, p.cs.length = n := ⟨_, rfl⟩
  obtain ⟨n2, hn2⟩ : ∃ n, p.st.length = n := ⟨_, rfl⟩
  obtain ⟨n3, hnn⟩ : ∃ n, p.evs.length = n := ⟨_, rfl⟩
  have HN := Lib.hid hnn
  simp only [hn1, hn2] at hKC hKL
  rw [hnn] at hKC hn3
  have hKL2 : ∀ (i : Nat) (hi : i < p.evs.length) (w' : World), Below w.heap.size w w' → Calls Try.prog 72 #[(.iface 114 (.agg #[])), .agg #[.slice A1 n1 c1, .slice A2 n2 c2, .slice A3 n3 c3], .int .i64 i] w' (LkPost (lackE 2 p i p.evs[i]) w') := by
    intro i hi w' hb
    have := hKL i hi w' hb
    rw [hnn] at this
    exact this
  rw [hn1, hn2, hnn]
  have KC := Lib.hid hKC
  have KL := Lib.hid hKL2
  obtain ⟨i0, hi0, hz0, hz1, hz2⟩ := info_parts infoLack
  clear hP hO hKC hKL hKL2 hn1 hn2 hnn hsi h0
  go_enter Try.func62, Try.ntmps62
  go_wp2_with (first
    | (go_at_call 43; refine (of_2 _).mono ?_; rintro e w' ⟨rfl, rfl⟩)
    | (go_at_call 71; refine (KC.out _ (by repeat (first | exact Below.refl _ _ | assumption | refine bel_drewN ?_ _ | refine Below.drew ?_ | refine bel_alloc ?_ _ | refine Below.setCell ?_ (by first | omega | (simp; done) | (simp; omega)) _ | refine bel_step ?_ (by assumption)))).mono ?_; rintro e' w1 ⟨rfl, hb1⟩; have k1 := (Blk.new _ _ _).after hb1; have x2 : w1.cell? ⟨w.heap.size, 2, none⟩ = some (.slice A3 n3 c3) := k1.cell 2; have K1 := Lib.hid k1; clear k1))
  go_loopw [9, 26] (fun v u wr => ∃ (k : Nat) (A : Option Addr) (d : Nat), k ≤ n3 ∧ v = .slice A (lksTo 2 p k).length d ∧ u = .int .i64 k ∧ wr.ownsRow (w.heap.size + 1) 131 3 (.slice A (lksTo 2 p k).length d) (lksTo 2 p k).length ((lksTo 2 p k).map lckCells).flatten ∧ Below w.heap.size w wr ∧ Blk wr w.heap.size 63 #[.slice A1 n1 c1, .slice A2 n2 c2, .slice A3 n3 c3]) (fun _ u _ => n3 - (intOf u).toNat)
  case atStart => exact ⟨0, none, 0, Nat.zero_le _, rfl, rfl, ⟨rfl, .inl ⟨rfl, rfl⟩⟩, (by repeat (first | exact Below.refl _ _ | assumption | refine bel_drewN ?_ _ | refine Below.drew ?_ | refine bel_alloc ?_ _ | refine Below.setCell ?_ (by first | omega | (simp; done) | (simp; omega)) _ | refine bel_step ?_ (by assumption))), K1.out⟩
  case round =>
    clear x2
    obtain ⟨k, A, d, hk, rfl, rfl, hown, hbel, hblk⟩ := hrel
    have HO := Lib.hid hown
    have HB := Lib.hid hblk
    have hlt0 : w.heap.size < wr.heap.size := hblk.lt
    have q0 : wr.cell? ⟨w.heap.size, 0, none⟩ = some (.slice A1 n1 c1) := hblk.cell 0
    have q1 : wr.cell? ⟨w.heap.size, 1, none⟩ = some (.slice A2 n2 c2) := hblk.cell 1
    have q2 : wr.cell? ⟨w.heap.size, 2, none⟩ = some (.slice A3 n3 c3) := hblk.cell 2
    clear hown hblk
    by_cases hlt : k < n3
    · have hk2 : k < p.evs.length := by have := HN.out; omega
      have hke := KL.out k hk2 wr hbel
      obtain ⟨X, hX⟩ : ∃ X, lackE 2 p k p.evs[k] = X := ⟨_, rfl⟩
      have hts := HTS.out k hk2
      rw [hX] at hke hts
      have hlen : (lksTo 2 p k ++ X).length ≤ 27000 := by
        have := HTL.out (k + 1) hk2
        rw [hts] at this
        exact this
      obtain ⟨L, hL⟩ : ∃ L, lksTo 2 p k = L := ⟨_, rfl⟩
      rw [hL] at hlen HO hts
      have KG := Lib.hid hke
      have KT := Lib.hid hts
      have HLN := Lib.hid hlen
      rw [hL]
      clear hke hX hts hL hlen
      go_wp2_with (first
        | (go_at_call 72; refine KG.out.mono ?_; rintro e' w2 ⟨A', d', rfl, hb2, hrd, hfr⟩; have HRD := Lib.hid hrd; have KP2 := Lib.hid (HB.out.after hb2); have HB2 := Lib.hid hb2; have HO2 := Lib.hid (own_keep HO.out fun g _ hlt => hb2.block g hlt); clear hb2 hrd hfr)
        | (at_builtin
           refine wpList_append_rd rfl (.tmp 29) (.tmp 33) _ rfl (w.heap.size + 1) 131 i0 _ 3 24 Try.underlying103 hi0 hz0 hz1 hz2 rfl (by omega) (.slice A L.length d) L.length (L.map lckCells) rfl HO2.out (lck_len _) (by simp) _ A' (X.map lckCells) X.length d' rfl (by simp) HRD.out (lck_len _) (lck_one _) (by have := HLN.out; simp at this; unfold maxLen; simp; omega) (by have := HLN.out; simp at this; simp; omega) (by have := KP2.out.lt; omega) ?_
           intro Q' d'' w3 hown3 hg3 hat3
           have HO3 := Lib.hid hown3
           have HG3 := Lib.hid hg3
           clear hown3 hg3 hat3))
      go_roundw
      case rel =>
        have hne : ∀ g, (Value.slice A L.length d).ownBlock = some g → w.heap.size + 1 ≤ g := fun g e => (own_lt HO2.out g e).1
        refine ⟨k + 1, Q', d'', by omega, ?_, by go_num, ?_, ?_, ?_⟩
        · rw [KT.out, List.length_append]
        · rw [KT.out, List.length_append, List.map_append]; exact HO3.out
        · exact (hbel.trans (HB2.out.mono hbel.size)).grown HG3.out (by have := hbel.size; have := HB2.out.size; omega) (fun g e => by have := hne g e; omega)
        · exact blk_grown KP2.out HG3.out (fun e => by have := hne _ e.symm; omega)
      case measure => simp [intOf]; omega
    · have hkn : k = n3 := by omega
      go_wp2
      go_ret2
      obtain ⟨A', c', hv, hrd, hat, hcap⟩ := rd_of_own (l := (lksTo 2 p k).map lckCells) HO.out (lck_len _) rfl (by simp)
      injection hv with hv1 hv2 hv3
      subst hv1
      subst hkn
      exact ⟨A, d, rfl, hbel, hrd, fun ad e => by have := (hat ad e).2; omega⟩
/-- The program answers that the piece has an error. -/
theorem pLacksE_2 (M : PM) (p : Pce) (w : World) (hP : PcAt w w.heap.size M p) (hO : PcOk p) (h0 : pceE p ≠ 0) :
    Calls Try.prog 62 #[.int .u8 2, pcValue M p] w (Ret (.tuple #[.slice none 0 0, .int .i64 (pceE p)]) w) := by
  have KC := Lib.hid (fun (w' : World) (hb : Below w.heap.size w w') => pCheck_any M p w' (hP.after hb) hO)
  obtain ⟨A1, A2, A3, c1, c2, c3⟩ := M
  unfold pcValue at *
  simp only at *
  generalize pceE p = E at *
  generalize p.cs.length = n1 at *
  generalize p.st.length = n2 at *
  generalize p.evs.length = n3 at *
  have e1 : (E == 0) = false := by simpa using h0
  have e2 : (E != 0) = true := by simpa using h0
  clear hP hO h0
  go_enter Try.func62, Try.ntmps62
  go_wp2_with (first
    | (go_at_call 43; refine (of_2 _).mono ?_; rintro e w' ⟨rfl, rfl⟩)
    | (go_at_call 71; refine (KC.out _ (by repeat (first | exact Below.refl _ _ | assumption | refine bel_drewN ?_ _ | refine Below.drew ?_ | refine bel_alloc ?_ _ | refine Below.setCell ?_ (by first | omega | (simp; done) | (simp; omega)) _ | refine bel_step ?_ (by assumption)))).mono ?_; rintro e' w1 ⟨rfl, hb1⟩))
  go_ret2
  exact Ret.mk' rfl (by repeat (first | exact Below.refl _ _ | assumption | refine bel_drewN ?_ _ | refine Below.drew ?_ | refine bel_alloc ?_ _ | refine Below.setCell ?_ (by first | omega | (simp; done) | (simp; omega)) _ | refine bel_step ?_ (by assumption)))
end Go.Proofs.Yteldgllgagjciaa

/- What a system lacks of a piece: the program, in one system. -/
namespace Go.Proofs.Yteldgllgagjciaa
open Go.RowKit
set_option maxHeartbeats 4000000
set_option maxRecDepth 100000
set_option linter.unusedVariables false
set_option linter.unusedSimpArgs false
theorem pLacks_3 (M : PM) (p : Pce) (w : World) (hP : PcAt w w.heap.size M p) (hO : PcOk p) (h0 : pceE p = 0) :
    Calls Try.prog 62 #[.int .u8 3, pcValue M p] w (LksPost (lksTo 3 p p.evs.length) w) := by
  have hsi := fun k hk => stopsIn_of h0 k hk
  obtain ⟨A1, A2, A3, c1, c2, c3⟩ := M
  have hn3 := hO.n3
  have hKC : ∀ w' : World, Below w.heap.size w w' → Calls Try.prog 71 #[pcValue ⟨A1, A2, A3, c1, c2, c3⟩ p] w' (Ret (.int .i64 0) w') := fun w' hb => h0 ▸ pCheck_any ⟨A1, A2, A3, c1, c2, c3⟩ p w' (hP.after hb) hO
  have hKL := fun (i : Nat) (hi : i < p.evs.length) (w' : World) (hb : Below w.heap.size w w') => plack_3 ⟨A1, A2, A3, c1, c2, c3⟩ p i hi w' (hP.after hb) hO (hsi i hi)
  have HTL := Lib.hid (fun k (hk : k ≤ p.evs.length) => lksTo_len 3 hO k hk)
  have HTS := Lib.hid (fun k (hk : k < p.evs.length) => lksTo_at 3 p hk)
  unfold pcValue at *
  simp only at *
  obtain ⟨n1, hn1⟩ : ∃ n, p.cs.length = n := ⟨_, rfl⟩
  obtain ⟨n2, hn2⟩ : ∃ n, p.st.length = n := ⟨_, rfl⟩
  obtain ⟨n3, hnn⟩ : ∃ n, p.evs.length = n := ⟨_, rfl⟩
  have HN := Lib.hid hnn
  simp only [hn1, hn2] at hKC hKL
  rw [hnn] at hKC hn3
  have hKL2 : ∀ (i : Nat) (hi : i < p.evs.length) (w' : World), Below w.heap.size w w' → Calls Try.prog 72 #[(.iface 116 (.agg #[])), .agg #[.slice A1 n1 c1, .slice A2 n2 c2, .slice A3 n3 c3], .int .i64 i] w' (LkPost (lackE 3 p i p.evs[i]) w') := by
    intro i hi w' hb
    have := hKL i hi w' hb
    rw [hnn] at this
    exact this
  rw [hn1, hn2, hnn]
  have KC := Lib.hid hKC
  have KL := Lib.hid hKL2
  obtain ⟨i0, hi0, hz0, hz1, hz2⟩ := info_parts infoLack
  clear hP hO hKC hKL hKL2 hn1 hn2 hnn hsi h0
  go_enter Try.func62, Try.ntmps62
  go_wp2_with (first
    | (go_at_call 43; refine (of_3 _).mono ?_; rintro e w' ⟨rfl, rfl⟩)
    | (go_at_call 71; refine (KC.out _ (by repeat (first | exact Below.refl _ _ | assumption | refine bel_drewN ?_ _ | refine Below.drew ?_ | refine bel_alloc ?_ _ | refine Below.setCell ?_ (by first | omega | (simp; done) | (simp; omega)) _ | refine bel_step ?_ (by assumption)))).mono ?_; rintro e' w1 ⟨rfl, hb1⟩; have k1 := (Blk.new _ _ _).after hb1; have x2 : w1.cell? ⟨w.heap.size, 2, none⟩ = some (.slice A3 n3 c3) := k1.cell 2; have K1 := Lib.hid k1; clear k1))
  go_loopw [9, 26] (fun v u wr => ∃ (k : Nat) (A : Option Addr) (d : Nat), k ≤ n3 ∧ v = .slice A (lksTo 3 p k).length d ∧ u = .int .i64 k ∧ wr.ownsRow (w.heap.size + 1) 131 3 (.slice A (lksTo 3 p k).length d) (lksTo 3 p k).length ((lksTo 3 p k).map lckCells).flatten ∧ Below w.heap.size w wr ∧ Blk wr w.heap.size 63 #[.slice A1 n1 c1, .slice A2 n2 c2, .slice A3 n3 c3]) (fun _ u _ => n3 - (intOf u).toNat)
  case atStart => exact ⟨0, none, 0, Nat.zero_le _, rfl, rfl, ⟨rfl, .inl ⟨rfl, rfl⟩⟩, (by repeat (first | exact Below.refl _ _ | assumption | refine bel_drewN ?_ _ | refine Below.drew ?_ | refine bel_alloc ?_ _ | refine Below.setCell ?_ (by first | omega | (simp; done) | (simp; omega)) _ | refine bel_step ?_ (by assumption))), K1.out⟩
  case round =>
    clear x2
    obtain ⟨k, A, d, hk, rfl, rfl, hown, hbel, hblk⟩ := hrel
    have HO := Lib.hid hown
    have HB := Lib.hid hblk
    have hlt0 : w.heap.size < wr.heap.size := hblk.lt
    have q0 : wr.cell? ⟨w.heap.size, 0, none⟩ = some (.slice A1 n1 c1) := hblk.cell 0
    have q1 : wr.cell? ⟨w.heap.size, 1, none⟩ = some (.slice A2 n2 c2) := hblk.cell 1
    have q2 : wr.cell? ⟨w.heap.size, 2, none⟩ = some (.slice A3 n3 c3) := hblk.cell 2
    clear hown hblk
    by_cases hlt : k < n3
    · have hk2 : k < p.evs.length := by have := HN.out; omega
      have hke := KL.out k hk2 wr hbel
      obtain ⟨X, hX⟩ : ∃ X, lackE 3 p k p.evs[k] = X := ⟨_, rfl⟩
      have hts := HTS.out k hk2
      rw [hX] at hke hts
      have hlen : (lksTo 3 p k ++ X).length ≤ 27000 := by
        have := HTL.out (k + 1) hk2
        rw [hts] at this
        exact this
      obtain ⟨L, hL⟩ : ∃ L, lksTo 3 p k = L := ⟨_, rfl⟩
      rw [hL] at hlen HO hts
      have KG := Lib.hid hke
      have KT := Lib.hid hts
      have HLN := Lib.hid hlen
      rw [hL]
      clear hke hX hts hL hlen
      go_wp2_with (first
        | (go_at_call 72; refine KG.out.mono ?_; rintro e' w2 ⟨A', d', rfl, hb2, hrd, hfr⟩; have HRD := Lib.hid hrd; have KP2 := Lib.hid (HB.out.after hb2); have HB2 := Lib.hid hb2; have HO2 := Lib.hid (own_keep HO.out fun g _ hlt => hb2.block g hlt); clear hb2 hrd hfr)
        | (at_builtin
           refine wpList_append_rd rfl (.tmp 29) (.tmp 33) _ rfl (w.heap.size + 1) 131 i0 _ 3 24 Try.underlying103 hi0 hz0 hz1 hz2 rfl (by omega) (.slice A L.length d) L.length (L.map lckCells) rfl HO2.out (lck_len _) (by simp) _ A' (X.map lckCells) X.length d' rfl (by simp) HRD.out (lck_len _) (lck_one _) (by have := HLN.out; simp at this; unfold maxLen; simp; omega) (by have := HLN.out; simp at this; simp; omega) (by have := KP2.out.lt; omega) ?_
           intro Q' d'' w3 hown3 hg3 hat3
           have HO3 := Lib.hid hown3
           have HG3 := Lib.hid hg3
           clear hown3 hg3 hat3))
      go_roundw
      case rel =>
        have hne : ∀ g, (Value.slice A L.length d).ownBlock = some g → w.heap.size + 1 ≤ g := fun g e => (own_lt HO2.out g e).1
        refine ⟨k + 1, Q', d'', by omega, ?_, by go_num, ?_, ?_, ?_⟩
        · rw [KT.out, List.length_append]
        · rw [KT.out, List.length_append, List.map_append]; exact HO3.out
        · exact (hbel.trans (HB2.out.mono hbel.size)).grown HG3.out (by have := hbel.size; have := HB2.out.size; omega) (fun g e => by have := hne g e; omega)
        · exact blk_grown KP2.out HG3.out (fun e => by have := hne _ e.symm; omega)
      case measure => simp [intOf]; omega
    · have hkn : k = n3 := by omega
      go_wp2
      go_ret2
      obtain ⟨A', c', hv, hrd, hat, hcap⟩ := rd_of_own (l := (lksTo 3 p k).map lckCells) HO.out (lck_len _) rfl (by simp)
      injection hv with hv1 hv2 hv3
      subst hv1
      subst hkn
      exact ⟨A, d, rfl, hbel, hrd, fun ad e => by have := (hat ad e).2; omega⟩
/-- The program answers that the piece has an error. -/
theorem pLacksE_3 (M : PM) (p : Pce) (w : World) (hP : PcAt w w.heap.size M p) (hO : PcOk p) (h0 : pceE p ≠ 0) :
    Calls Try.prog 62 #[.int .u8 3, pcValue M p] w (Ret (.tuple #[.slice none 0 0, .int .i64 (pceE p)]) w) := by
  have KC := Lib.hid (fun (w' : World) (hb : Below w.heap.size w w') => pCheck_any M p w' (hP.after hb) hO)
  obtain ⟨A1, A2, A3, c1, c2, c3⟩ := M
  unfold pcValue at *
  simp only at *
  generalize pceE p = E at *
  generalize p.cs.length = n1 at *
  generalize p.st.length = n2 at *
  generalize p.evs.length = n3 at *
  have e1 : (E == 0) = false := by simpa using h0
  have e2 : (E != 0) = true := by simpa using h0
  clear hP hO h0
  go_enter Try.func62, Try.ntmps62
  go_wp2_with (first
    | (go_at_call 43; refine (of_3 _).mono ?_; rintro e w' ⟨rfl, rfl⟩)
    | (go_at_call 71; refine (KC.out _ (by repeat (first | exact Below.refl _ _ | assumption | refine bel_drewN ?_ _ | refine Below.drew ?_ | refine bel_alloc ?_ _ | refine Below.setCell ?_ (by first | omega | (simp; done) | (simp; omega)) _ | refine bel_step ?_ (by assumption)))).mono ?_; rintro e' w1 ⟨rfl, hb1⟩))
  go_ret2
  exact Ret.mk' rfl (by repeat (first | exact Below.refl _ _ | assumption | refine bel_drewN ?_ _ | refine Below.drew ?_ | refine bel_alloc ?_ _ | refine Below.setCell ?_ (by first | omega | (simp; done) | (simp; omega)) _ | refine bel_step ?_ (by assumption)))
end Go.Proofs.Yteldgllgagjciaa

/- Whether a system can say a piece: the program, in one system. -/
namespace Go.Proofs.Yteldgllgagjciaa
open Go.RowKit
set_option maxHeartbeats 1600000
set_option maxRecDepth 100000
set_option linter.unusedVariables false
set_option linter.unusedSimpArgs false
theorem pCan_1 (M : PM) (p : Pce) (w : World) (hP : PcAt w w.heap.size M p) (hO : PcOk p) (h0 : pceE p = 0) :
    Calls Try.prog 34 #[.int .u8 1, pcValue M p] w (Ret (.bool (((lksTo 1 p p.evs.length).length : Int) == 0)) w) := by
  obtain ⟨N, hN⟩ : ∃ N, (lksTo 1 p p.evs.length).length = N := ⟨_, rfl⟩
  have KL : Hid (∀ w' : World, Below w.heap.size w w' → Calls Try.prog 62 #[.int .u8 1, pcValue M p] w' fun e w1 => ∃ A d, e = .returned (.tuple #[.slice A N d, .int .i64 0]) ∧ Below w'.heap.size w' w1) :=
    Lib.hid fun w' hb => (pLacks_1 M p w' (hP.after hb) hO h0).mono fun e w1 ⟨A, d, he, hb1, _⟩ => ⟨A, d, by rw [he, hN], hb1⟩
  rw [hN]
  obtain ⟨A1, A2, A3, c1, c2, c3⟩ := M
  unfold pcValue at *
  simp only at *
  generalize p.cs.length = n1 at *
  generalize p.st.length = n2 at *
  generalize p.evs.length = n3 at *
  obtain ⟨V, hV⟩ : ∃ V, ((N : Int) == 0) = V := ⟨_, rfl⟩
  rw [hV]
  clear hP hO h0 hN
  go_enter Try.func34, Try.ntmps34
  go_wp2_with (go_at_call 62; refine (KL.out _ (by repeat (first | exact Below.refl _ _ | assumption | refine bel_drewN ?_ _ | refine Below.drew ?_ | refine bel_alloc ?_ _ | refine Below.setCell ?_ (by first | omega | (simp; done) | (simp; omega)) _ | refine bel_step ?_ (by assumption)))).mono ?_; rintro e' w1 ⟨A, d, rfl, hb1⟩)
  go_ret
  exact Ret.mk' (by first | rfl | (simp [hV]; done) | (rw [hV])) (by repeat (first | exact Below.refl _ _ | assumption | refine bel_drewN ?_ _ | refine Below.drew ?_ | refine bel_alloc ?_ _ | refine Below.setCell ?_ (by first | omega | (simp; done) | (simp; omega)) _ | refine bel_step ?_ (by assumption)))
end Go.Proofs.Yteldgllgagjciaa

/- Whether a system can say a piece: the program, in one system. -/
namespace Go.Proofs.Yteldgllgagjciaa
open Go.RowKit
set_option maxHeartbeats 1600000
set_option maxRecDepth 100000
set_option linter.unusedVariables false
set_option linter.unusedSimpArgs false
theorem pCan_2 (M : PM) (p : Pce) (w : World) (hP : PcAt w w.heap.size M p) (hO : PcOk p) (h0 : pceE p = 0) :
    Calls Try.prog 34 #[.int .u8 2, pcValue M p] w (Ret (.bool (((lksTo 2 p p.evs.length).length : Int) == 0)) w) := by
  obtain ⟨N, hN⟩ : ∃ N, (lksTo 2 p p.evs.length).length = N := ⟨_, rfl⟩
  have KL : Hid (∀ w' : World, Below w.heap.size w w' → Calls Try.prog 62 #[.int .u8 2, pcValue M p] w' fun e w1 => ∃ A d, e = .returned (.tuple #[.slice A N d, .int .i64 0]) ∧ Below w'.heap.size w' w1) :=
    Lib.hid fun w' hb => (pLacks_2 M p w' (hP.after hb) hO h0).mono fun e w1 ⟨A, d, he, hb1, _⟩ => ⟨A, d, by rw [he, hN], hb1⟩
  rw [hN]
  obtain ⟨A1, A2, A3, c1, c2, c3⟩ := M
  unfold pcValue at *
  simp only at *
  generalize p.cs.length = n1 at *
  generalize p.st.length = n2 at *
  generalize p.evs.length = n3 at *
  obtain ⟨V, hV⟩ : ∃ V, ((N : Int) == 0) = V := ⟨_, rfl⟩
  rw [hV]
  clear hP hO h0 hN
  go_enter Try.func34, Try.ntmps34
  go_wp2_with (go_at_call 62; refine (KL.out _ (by repeat (first | exact Below.refl _ _ | assumption | refine bel_drewN ?_ _ | refine Below.drew ?_ | refine bel_alloc ?_ _ | refine Below.setCell ?_ (by first | omega | (simp; done) | (simp; omega)) _ | refine bel_step ?_ (by assumption)))).mono ?_; rintro e' w1 ⟨A, d, rfl, hb1⟩)
  go_ret
  exact Ret.mk' (by first | rfl | (simp [hV]; done) | (rw [hV])) (by repeat (first | exact Below.refl _ _ | assumption | refine bel_drewN ?_ _ | refine Below.drew ?_ | refine bel_alloc ?_ _ | refine Below.setCell ?_ (by first | omega | (simp; done) | (simp; omega)) _ | refine bel_step ?_ (by assumption)))
end Go.Proofs.Yteldgllgagjciaa

/- Whether a system can say a piece: the program, in one system. -/
namespace Go.Proofs.Yteldgllgagjciaa
open Go.RowKit
set_option maxHeartbeats 1600000
set_option maxRecDepth 100000
set_option linter.unusedVariables false
set_option linter.unusedSimpArgs false
theorem pCan_3 (M : PM) (p : Pce) (w : World) (hP : PcAt w w.heap.size M p) (hO : PcOk p) (h0 : pceE p = 0) :
    Calls Try.prog 34 #[.int .u8 3, pcValue M p] w (Ret (.bool (((lksTo 3 p p.evs.length).length : Int) == 0)) w) := by
  obtain ⟨N, hN⟩ : ∃ N, (lksTo 3 p p.evs.length).length = N := ⟨_, rfl⟩
  have KL : Hid (∀ w' : World, Below w.heap.size w w' → Calls Try.prog 62 #[.int .u8 3, pcValue M p] w' fun e w1 => ∃ A d, e = .returned (.tuple #[.slice A N d, .int .i64 0]) ∧ Below w'.heap.size w' w1) :=
    Lib.hid fun w' hb => (pLacks_3 M p w' (hP.after hb) hO h0).mono fun e w1 ⟨A, d, he, hb1, _⟩ => ⟨A, d, by rw [he, hN], hb1⟩
  rw [hN]
  obtain ⟨A1, A2, A3, c1, c2, c3⟩ := M
  unfold pcValue at *
  simp only at *
  generalize p.cs.length = n1 at *
  generalize p.st.length = n2 at *
  generalize p.evs.length = n3 at *
  obtain ⟨V, hV⟩ : ∃ V, ((N : Int) == 0) = V := ⟨_, rfl⟩
  rw [hV]
  clear hP hO h0 hN
  go_enter Try.func34, Try.ntmps34
  go_wp2_with (go_at_call 62; refine (KL.out _ (by repeat (first | exact Below.refl _ _ | assumption | refine bel_drewN ?_ _ | refine Below.drew ?_ | refine bel_alloc ?_ _ | refine Below.setCell ?_ (by first | omega | (simp; done) | (simp; omega)) _ | refine bel_step ?_ (by assumption)))).mono ?_; rintro e' w1 ⟨A, d, rfl, hb1⟩)
  go_ret
  exact Ret.mk' (by first | rfl | (simp [hV]; done) | (rw [hV])) (by repeat (first | exact Below.refl _ _ | assumption | refine bel_drewN ?_ _ | refine Below.drew ?_ | refine bel_alloc ?_ _ | refine Below.setCell ?_ (by first | omega | (simp; done) | (simp; omega)) _ | refine bel_step ?_ (by assumption)))
end Go.Proofs.Yteldgllgagjciaa

/- What NotationSays says, in plain Lean: the French tablature lacks nothing but a fretted low course; what the Spanish can say the Italian can. -/
namespace Go.Proofs.Yteldgllgagjciaa
open Go.RowKit
set_option linter.unusedVariables false
theorem lksTo_nil (s : Int) (p : Pce) : ∀ n, n ≤ p.evs.length → ((lksTo s p n).length = 0 ↔ ∀ k (h : k < p.evs.length), k < n → lackE s p k p.evs[k] = []) := by
  intro n
  induction n with
  | zero => intro _; exact ⟨fun _ k _ h => by omega, fun _ => rfl⟩
  | succ n ih =>
    intro hn
    have hlt : n < p.evs.length := by omega
    rw [lksTo_at s p hlt, List.length_append]
    have := ih (by omega)
    constructor
    · intro h k hk hkn
      by_cases hk2 : k = n
      · subst hk2; exact List.eq_nil_of_length_eq_zero (by omega)
      · exact this.1 (by omega) k hk (by omega)
    · intro h
      have a := this.2 fun k hk hkn => h k hk (by omega)
      rw [h n hlt (by omega)]
      simp; exact List.eq_nil_of_length_eq_zero a
theorem lkIf_nil (ok : Bool) (i c x : Int) : lkIf ok i c x = [] ↔ ok = true := by cases ok <;> simp [lkIf]
/-- A low course that is fretted. -/
def lowS (x : Stp) : Bool := decide (10 < x.1) && decide (0 < x.2.1)
def lowE (e : Ev) : Bool := e.stops.any lowS
def lowP (p : Pce) : Bool := p.evs.any lowE
theorem okR1 : ∀ n : Int, 0 ≤ n → n ≤ 3 → okR 1 n = true := by
  intro n h0 h1
  have : n = 0 ∨ n = 1 ∨ n = 2 ∨ n = 3 := by omega
  rcases this with rfl | rfl | rfl | rfl <;> decide
theorem okG1 : ∀ n : Int, 0 ≤ n → n ≤ 4 → okG 1 n = true := by
  intro n h0 h1
  have : n = 0 ∨ n = 1 ∨ n = 2 ∨ n = 3 ∨ n = 4 := by omega
  rcases this with rfl | rfl | rfl | rfl | rfl <;> decide
theorem okR32 : ∀ n : Int, 0 ≤ n → n ≤ 3 → okR 3 n = true → okR 2 n = true := by
  intro n h0 h1
  have : n = 0 ∨ n = 1 ∨ n = 2 ∨ n = 3 := by omega
  rcases this with rfl | rfl | rfl | rfl <;> decide
theorem okG32 : ∀ n : Int, 0 ≤ n → n ≤ 4 → okG 3 n = true → okG 2 n = true := by
  intro n h0 h1
  have : n = 0 ∨ n = 1 ∨ n = 2 ∨ n = 3 ∨ n = 4 := by omega
  rcases this with rfl | rfl | rfl | rfl | rfl <;> decide
theorem okH1 (n L : Int) : okH 1 n L = true := by simp [okH, rH]
theorem okH32 (n L : Int) (h : okH 3 n L = true) : okH 2 n L = true := by
  have : (n == 0) = true := by simpa [okH, rH] using h
  unfold okH; rw [this]; rfl
theorem pOk1 (c f : Int) : pOk 1 c f = if 11 ≤ c then f == 0 else true := rfl
theorem pOk32 (c f : Int) (h : pOk 3 c f = true) : pOk 2 c f = true := by
  have h3 : spOk c f = true := h
  show itOk c f = true
  unfold spOk at h3
  unfold itOk
  by_cases hc : c ≤ 6
  · rw [if_pos hc] at h3 ⊢; exact h3
  · rw [if_neg hc] at h3; cases h3
theorem lackHead_nil (s i : Int) (e : Ev) (h : ∀ n, hasS s n = true) : lackHead s i e = [] := by
  unfold lackHead
  rw [h 6, h 5, h 7, h 8]
  simp [lkIf]
theorem hasS1 (n : Int) : hasS 1 n = true := rfl
theorem hasS2 (n : Int) : hasS 2 n = true := rfl
theorem lackE_nil (s : Int) (p : Pce) (i : Int) (e : Ev) (h : ∀ n, hasS s n = true) :
    lackE s p i e = [] ↔ ∀ k (hk : k < e.stops.length), lackStop s i (fun c => longestN p.evs i c) e.stops[k] = [] := by
  unfold lackE
  rw [lackHead_nil s i e h, List.nil_append, List.flatMap_eq_nil_iff]
  exact ⟨fun h k hk => h _ (List.getElem_mem hk), fun h x hx => by obtain ⟨k, hk, rfl⟩ := List.getElem_of_mem hx; exact h k hk⟩
theorem lackE_stops (s : Int) (p : Pce) (i : Int) (e : Ev) (h : lackE s p i e = []) : ∀ k (hk : k < e.stops.length), lackStop s i (fun c => longestN p.evs i c) e.stops[k] = [] := by
  unfold lackE at h
  have := (List.append_eq_nil_iff.1 h).2
  rw [List.flatMap_eq_nil_iff] at this
  exact fun k hk => this _ (List.getElem_mem hk)
theorem lackStop_nil (s i : Int) (L : Int → Nat) (x : Stp) : lackStop s i L x = [] ↔ pOk s x.1 x.2.1 = true ∧ okR s x.2.2.1 = true ∧ okG s x.2.2.2.1 = true ∧ okH s x.2.2.2.2 (L x.1) = true := by
  unfold lackStop
  cases h : pOk s x.1 x.2.1 with
  | false => simp
  | true =>
    rw [if_neg (by simp)]
    simp only [List.append_eq_nil_iff, lkIf_nil, true_and]
theorem french_stop (i : Int) (L : Int → Nat) (x : Stp) (hb : 0 ≤ x.2.1) (hr : 0 ≤ x.2.2.1 ∧ x.2.2.1 ≤ 3) (hg : 0 ≤ x.2.2.2.1 ∧ x.2.2.2.1 ≤ 4) : lackStop 1 i L x = [] ↔ lowS x = false := by
  rw [lackStop_nil, okR1 _ hr.1 hr.2, okG1 _ hg.1 hg.2, okH1, pOk1]
  unfold lowS
  by_cases hc : 11 ≤ x.1
  · rw [if_pos hc]
    have : decide (10 < x.1) = true := decide_eq_true (by omega)
    rw [this]
    simp; omega
  · rw [if_neg hc]
    have : decide (10 < x.1) = false := decide_eq_false (by omega)
    rw [this]; simp
theorem french_says {p : Pce} (h0 : pceE p = 0) : (((lksTo 1 p p.evs.length).length : Int) == 0) = !lowP p := by
  have hb := fun k hk => stopsIn_of h0 k hk
  have key : (lksTo 1 p p.evs.length).length = 0 ↔ lowP p = false := by
    rw [lksTo_nil 1 p _ (Nat.le_refl _)]
    unfold lowP lowE
    rw [List.any_eq_false]
    constructor
    · intro h e he
      obtain ⟨k, hk, rfl⟩ := List.getElem_of_mem he
      have := (lackE_nil 1 p k _ hasS1).1 (h k hk hk)
      rw [Bool.not_eq_true, List.any_eq_false]
      intro x hx
      obtain ⟨j, hj, rfl⟩ := List.getElem_of_mem hx
      have hbb := hb k hk j hj
      rw [(french_stop k _ _ hbb.2.1.1 hbb.2.2.1 hbb.2.2.2.1).1 (this j hj)]; simp
    · intro h k hk _
      refine (lackE_nil 1 p k _ hasS1).2 fun j hj => ?_
      have hbb := hb k hk j hj
      refine (french_stop k _ _ hbb.2.1.1 hbb.2.2.1 hbb.2.2.2.1).2 ?_
      have := h _ (List.getElem_mem hk)
      rw [Bool.not_eq_true, List.any_eq_false] at this
      simpa using this _ (List.getElem_mem hj)
  cases hl : lowP p with
  | false => rw [key.2 hl]; rfl
  | true =>
    have : ¬ (lksTo 1 p p.evs.length).length = 0 := fun h => by rw [key.1 h] at hl; cases hl
    simpa using this
theorem spanish_italian {p : Pce} (h0 : pceE p = 0) (h : (((lksTo 3 p p.evs.length).length : Int) == 0) = true) : (((lksTo 2 p p.evs.length).length : Int) == 0) = true := by
  have hb := fun k hk => stopsIn_of h0 k hk
  have h3 : (lksTo 3 p p.evs.length).length = 0 := by simpa using h
  have h2 : (lksTo 2 p p.evs.length).length = 0 := by
    rw [lksTo_nil _ p _ (Nat.le_refl _)] at h3 ⊢
    intro k hk hkn
    refine (lackE_nil 2 p k _ hasS2).2 fun j hj => ?_
    have hbb := hb k hk j hj
    obtain ⟨a, b, c, d⟩ := (lackStop_nil _ _ _ _).1 (lackE_stops 3 p k _ (h3 k hk hkn) j hj)
    exact (lackStop_nil _ _ _ _).2 ⟨pOk32 _ _ a, okR32 _ hbb.2.2.1.1 hbb.2.2.1.2 b, okG32 _ hbb.2.2.2.1.1 hbb.2.2.2.1.2 c, okH32 _ _ d⟩
  rw [h2]; rfl
end Go.Proofs.Yteldgllgagjciaa

/- NotationSays: the walk's words. -/
namespace Go.Proofs.Yteldgllgagjciaa
open Go.RowKit
set_option linter.unusedVariables false
theorem pcOk_of {p : Pce} (h : bigB p = false) : PcOk p := by
  unfold bigB at h
  simp only [Bool.or_eq_false_iff, decide_eq_false_iff_not, List.any_eq_false] at h
  obtain ⟨h1, h2, h3, h4⟩ := h
  refine ⟨by omega, by omega, by omega, fun k hk => ?_⟩
  have := h4 _ (List.getElem_mem hk)
  simp at this
  exact this
end Go.Proofs.Yteldgllgagjciaa

/- Check of a piece: the reference. -/
namespace Go.Proofs.Yteldgllgagjciaa
open Go.RowKit
set_option maxHeartbeats 4000000
set_option maxRecDepth 100000
set_option linter.unusedVariables false
set_option linter.unusedSimpArgs false
theorem rCheck_any (M : PM) (p : Pce) (w : World) (hP : PcAt w w.heap.size M p) (hO : PcOk p) : Calls Try.prog 33 #[pcValue M p] w (Ret (.int .i64 (pceE p)) w) := by
  obtain ⟨A1, A2, A3, c1, c2, c3⟩ := M
  have hn3 := hO.n3
  have hCI := fun (w' : World) (hI : InsAt w' w'.heap.size A1 A2 p.cs p.st) => rInsCheck A1 A2 p.cs p.st p.cs.length p.st.length c1 c2 w' hI rfl rfl
  have hEV := fun (i : Nat) (hi : i < p.evs.length) (w' : World) (hb : Below w.heap.size w w') => rEvent_any ⟨A1, A2, A3, c1, c2, c3⟩ p i hi w' (hP.after hb) hO
  have HE1 := Lib.hid (pceE_ins (p := p))
  have HE2 := Lib.hid (pceE_many (p := p))
  have HE3 := Lib.hid (pceE_evs (p := p))
  unfold pcValue at *
  simp only at *
  obtain ⟨n1, hn1⟩ : ∃ n, p.cs.length = n := ⟨_, rfl⟩
  obtain ⟨n2, hn2⟩ : ∃ n, p.st.length = n := ⟨_, rfl⟩
  obtain ⟨n3, hnn⟩ : ∃ n, p.evs.length = n := ⟨_, rfl⟩
  have HN := Lib.hid hnn
  have HK := Lib.hid hnn
  simp only [hn1, hn2] at hCI hEV
  have hEV2 : ∀ (i : Nat) (hi : i < p.evs.length) (w' : World), Below w.heap.size w w' → Calls Try.prog 61 #[.agg #[.slice A1 n1 c1, .slice A2 n2 c2, .slice A3 n3 c3], .int .i64 i] w' (Ret (.int .i64 (evE p i p.evs[i])) w') := by
    intro i hi w' hb
    have := hEV i hi w' hb
    rw [hnn] at this
    exact this
  rw [hnn] at hn3
  rw [hn1, hn2, hnn]
  have KI := Lib.hid hCI
  have KE := Lib.hid hEV2
  have HI := Lib.hid (fun o => (hP.1.alloc (Nat.le_refl _) o).more (show w.heap.size ≤ (w.alloc o).heap.size by simp))
  obtain ⟨E, hE⟩ : ∃ E, insE p.cs p.st = E := ⟨_, rfl⟩
  rw [hE] at KI
  have HPI := Lib.hid hE
  clear hP hO hCI hEV hEV2 hn1 hn2 hnn hE
  by_cases b0 : E ≠ 0
  · rw [HE1.out (by rw [HPI.out]; exact b0), HPI.out]
    have e1 : (E == 0) = false := by simpa using b0
    have e2 : (E != 0) = true := by simpa using b0
    clear b0
    go_enter Try.func33, Try.ntmps33
    go_wp2_with (go_at_call 54; refine (KI.out _ (HI.out _)).mono ?_; rintro e' w1 ⟨rfl, hb1⟩)
    go_ret
    exact Ret.mk' rfl (by repeat (first | exact Below.refl _ _ | assumption | refine bel_drewN ?_ _ | refine Below.drew ?_ | refine bel_alloc ?_ _ | refine Below.setCell ?_ (by first | omega | (simp; done) | (simp; omega)) _ | refine bel_step ?_ (by assumption)))
  · have b0' : E = 0 := by omega
    subst b0'
    by_cases b1 : 400 < n3
    · rw [HE2.out (by rw [HPI.out]; exact b0) (by rw [HN.out]; exact b1)]
      clear b0
      go_enter Try.func33, Try.ntmps33
      go_wp2_with (go_at_call 54; refine (KI.out _ (HI.out _)).mono ?_; rintro e' w1 ⟨rfl, hb1⟩; have k1 := (Blk.new _ _ _).after hb1; have x2 : w1.cell? ⟨w.heap.size, 2, none⟩ = some (.slice A3 n3 c3) := k1.cell 2; clear k1)
      go_ret
      exact Ret.mk' rfl (by repeat (first | exact Below.refl _ _ | assumption | refine bel_drewN ?_ _ | refine Below.drew ?_ | refine bel_alloc ?_ _ | refine Below.setCell ?_ (by first | omega | (simp; done) | (simp; omega)) _ | refine bel_step ?_ (by assumption)))
    · rw [HE3.out (by rw [HPI.out]; exact b0) (by rw [HN.out]; exact b1)]
      obtain ⟨V, hV⟩ : ∃ V, evsE p 0 p.evs = V := ⟨_, rfl⟩
      rw [hV]
      have HV := Lib.hid hV
      clear b0 hV
      go_enter Try.func33, Try.ntmps33
      go_wp2_with (go_at_call 54; refine (KI.out _ (HI.out _)).mono ?_; rintro e' w1 ⟨rfl, hb1⟩; have k1 := (Blk.new _ _ _).after hb1; have x2 : w1.cell? ⟨w.heap.size, 2, none⟩ = some (.slice A3 n3 c3) := k1.cell 2; have K1 := Lib.hid k1; clear k1)
      go_loopw [3, 4] (fun u i wr => ∃ k : Nat, k ≤ n3 ∧ u = .int .i64 0 ∧ i = .int .i64 k ∧ V = evsE p k (p.evs.drop k) ∧ Below w.heap.size w wr ∧ Blk wr w.heap.size 63 #[.slice A1 n1 c1, .slice A2 n2 c2, .slice A3 n3 c3]) (fun _ i _ => n3 - (intOf i).toNat)
      case atStart => exact ⟨0, Nat.zero_le _, rfl, rfl, HV.out.symm, (by repeat (first | exact Below.refl _ _ | assumption | refine bel_drewN ?_ _ | refine Below.drew ?_ | refine bel_alloc ?_ _ | refine Below.setCell ?_ (by first | omega | (simp; done) | (simp; omega)) _ | refine bel_step ?_ (by assumption))), K1.out⟩
      case round =>
        clear x2
        obtain ⟨k, hk, rfl, rfl, hs, hbel, hblk⟩ := hrel
        have HR := Lib.hid hs
        have HB := Lib.hid hblk
        have hlt0 : w.heap.size < wr.heap.size := hblk.lt
        have q0 : wr.cell? ⟨w.heap.size, 0, none⟩ = some (.slice A1 n1 c1) := hblk.cell 0
        have q1 : wr.cell? ⟨w.heap.size, 1, none⟩ = some (.slice A2 n2 c2) := hblk.cell 1
        have q2 : wr.cell? ⟨w.heap.size, 2, none⟩ = some (.slice A3 n3 c3) := hblk.cell 2
        clear hs hblk
        by_cases hlt : k < n3
        · have hk2 : k < p.evs.length := by have := HN.out; omega
          have hs2 := HR.out.trans (evsE_at hk2)
          have hke := KE.out k hk2 wr hbel
          obtain ⟨G, hG⟩ : ∃ G, evE p k p.evs[k] = G := ⟨_, rfl⟩
          rw [hG] at hs2 hke
          have KG := Lib.hid hke
          clear hG hke
          by_cases hG0 : G = 0
          · subst hG0
            rw [if_neg (by decide)] at hs2
            have HR2 := Lib.hid hs2
            clear hs2
            go_wp2_with (go_at_call 61; refine KG.out.mono ?_; rintro e' w2 ⟨rfl, hb2⟩; have KP := Lib.hid (HB.out.after hb2))
            go_roundw
            case rel => exact ⟨k + 1, by omega, rfl, by go_num, HR2.out, (by repeat (first | exact Below.refl _ _ | assumption | refine bel_drewN ?_ _ | refine Below.drew ?_ | refine bel_alloc ?_ _ | refine Below.setCell ?_ (by first | omega | (simp; done) | (simp; omega)) _ | refine bel_step ?_ (by assumption))), KP.out⟩
            case measure => simp [intOf]; omega
          · rw [if_pos hG0] at hs2
            have HE4 := Lib.hid hs2
            have d1 : (G == 0) = false := by simpa using hG0
            have d2 : (G != 0) = true := by simpa using hG0
            clear hs2 hG0
            go_wp2_with (go_at_call 61; refine KG.out.mono ?_; rintro e' w2 ⟨rfl, hb2⟩)
            go_ret
            exact Ret.mk' (by rw [HE4.out]; rfl) (by repeat (first | exact Below.refl _ _ | assumption | refine bel_drewN ?_ _ | refine Below.drew ?_ | refine bel_alloc ?_ _ | refine Below.setCell ?_ (by first | omega | (simp; done) | (simp; omega)) _ | refine bel_step ?_ (by assumption)))
        · have HE4 := Lib.hid (HR.out.trans (show evsE p k (p.evs.drop k) = 0 from by rw [List.drop_eq_nil_of_le (by have := HN.out; omega)]; rfl))
          go_wp2
          go_ret
          exact Ret.mk' (by rw [HE4.out]; rfl) (by repeat (first | exact Below.refl _ _ | assumption | refine bel_drewN ?_ _ | refine Below.drew ?_ | refine bel_alloc ?_ _ | refine Below.setCell ?_ (by first | omega | (simp; done) | (simp; omega)) _ | refine bel_step ?_ (by assumption)))
end Go.Proofs.Yteldgllgagjciaa

/- NotationSays: the walk. -/
namespace Go.Proofs.Yteldgllgagjciaa
open Go.RowKit
set_option maxHeartbeats 8000000
set_option maxRecDepth 100000
set_option linter.unusedVariables false
set_option linter.unusedSimpArgs false
theorem says_big (M : PM) (p : Pce) (w : World) (hP : PcAt w w.heap.size M p) (hb : bigB p = true) : Calls Try.prog 11 #[pcValue M p] w (Ret (.bool true) w) := by
  have KB := Lib.hid (fun (w' : World) (hbl : Below w.heap.size w w') => hb ▸ big_any M p w' (hP.after hbl))
  obtain ⟨A1, A2, A3, c1, c2, c3⟩ := M
  unfold pcValue at *
  simp only at *
  generalize p.cs.length = n1 at *
  generalize p.st.length = n2 at *
  generalize p.evs.length = n3 at *
  clear hP hb
  go_enter Try.func11, Try.ntmps11
  go_wp2_with (first
    | (go_at_call 32; refine (KB.out _ (by repeat (first | exact Below.refl _ _ | assumption | refine bel_drewN ?_ _ | refine Below.drew ?_ | refine bel_alloc ?_ _ | refine Below.setCell ?_ (by first | omega | (simp; done) | (simp; omega)) _ | refine bel_step ?_ (by assumption)))).mono ?_; rintro e' w1 ⟨rfl, hb1⟩)
    | (go_at_call 14; refine (works_any _).mono ?_; rintro e' w2 ⟨rfl, hb2⟩))
  go_ret
  exact Ret.mk' rfl (by repeat (first | exact Below.refl _ _ | assumption | refine bel_drewN ?_ _ | refine Below.drew ?_ | refine bel_alloc ?_ _ | refine Below.setCell ?_ (by first | omega | (simp; done) | (simp; omega)) _ | refine bel_step ?_ (by assumption)))
theorem says_bad (M : PM) (p : Pce) (w : World) (hP : PcAt w w.heap.size M p) (hb : bigB p = false) (hE : pceE p ≠ 0) : Calls Try.prog 11 #[pcValue M p] w (Ret (.bool true) w) := by
  have KB := Lib.hid (fun (w' : World) (hbl : Below w.heap.size w w') => hb ▸ big_any M p w' (hP.after hbl))
  have KE := Lib.hid (fun (w' : World) (hbl : Below w.heap.size w w') => rCheck_any M p w' (hP.after hbl) (pcOk_of hb))
  obtain ⟨A1, A2, A3, c1, c2, c3⟩ := M
  unfold pcValue at *
  simp only at *
  generalize pceE p = E at *
  generalize p.cs.length = n1 at *
  generalize p.st.length = n2 at *
  generalize p.evs.length = n3 at *
  have e1 : (E == 0) = false := by simpa using hE
  have e2 : (E != 0) = true := by simpa using hE
  clear hP hb hE
  go_enter Try.func11, Try.ntmps11
  go_wp2_with (first
    | (go_at_call 32; refine (KB.out _ (by repeat (first | exact Below.refl _ _ | assumption | refine bel_drewN ?_ _ | refine Below.drew ?_ | refine bel_alloc ?_ _ | refine Below.setCell ?_ (by first | omega | (simp; done) | (simp; omega)) _ | refine bel_step ?_ (by assumption)))).mono ?_; rintro e' w1 ⟨rfl, hb1⟩; have k1 := (Blk.new _ _ _).after hb1; have x0 : w1.cell? ⟨w.heap.size, 0, none⟩ = some (.slice A1 n1 c1) := k1.cell 0; have x1 : w1.cell? ⟨w.heap.size, 1, none⟩ = some (.slice A2 n2 c2) := k1.cell 1; have x2 : w1.cell? ⟨w.heap.size, 2, none⟩ = some (.slice A3 n3 c3) := k1.cell 2; clear k1)
    | (go_at_call 33; refine (KE.out _ (by repeat (first | exact Below.refl _ _ | assumption | refine bel_drewN ?_ _ | refine Below.drew ?_ | refine bel_alloc ?_ _ | refine Below.setCell ?_ (by first | omega | (simp; done) | (simp; omega)) _ | refine bel_step ?_ (by assumption)))).mono ?_; rintro e' w2 ⟨rfl, hb2⟩)
    | (go_at_call 14; refine (works_any _).mono ?_; rintro e' w3 ⟨rfl, hb3⟩))
  go_ret
  exact Ret.mk' rfl (by repeat (first | exact Below.refl _ _ | assumption | refine bel_drewN ?_ _ | refine Below.drew ?_ | refine bel_alloc ?_ _ | refine Below.setCell ?_ (by first | omega | (simp; done) | (simp; omega)) _ | refine bel_step ?_ (by assumption)))
def CpCan (n1 n2 n3 : Nat) (C1 C2 C3 : Bool) (W : World) (e : Ending) (w1 : World) : Prop :=
  ∃ (B1 B2 B3 : Option Addr) (d1 d2 d3 : Nat), e = .returned (.agg #[.slice B1 n1 d1, .slice B2 n2 d2, .slice B3 n3 d3]) ∧ Below W.heap.size W w1 ∧
    Calls Try.prog 34 #[.int .u8 1, .agg #[.slice B1 n1 d1, .slice B2 n2 d2, .slice B3 n3 d3]] w1 (Ret (.bool C1) w1) ∧
    Calls Try.prog 34 #[.int .u8 2, .agg #[.slice B1 n1 d1, .slice B2 n2 d2, .slice B3 n3 d3]] w1 (Ret (.bool C2) w1) ∧
    Calls Try.prog 34 #[.int .u8 3, .agg #[.slice B1 n1 d1, .slice B2 n2 d2, .slice B3 n3 d3]] w1 (Ret (.bool C3) w1)
theorem says_ok (M : PM) (p : Pce) (w : World) (hP : PcAt w w.heap.size M p) (hb : bigB p = false) (hE : pceE p = 0) : Calls Try.prog 11 #[pcValue M p] w (Ret (.bool true) w) := by
  have hO := pcOk_of hb
  have KB := Lib.hid (fun (w' : World) (hbl : Below w.heap.size w w') => hb ▸ big_any M p w' (hP.after hbl))
  have KE := Lib.hid (fun (w' : World) (hbl : Below w.heap.size w w') => hE ▸ rCheck_any M p w' (hP.after hbl) hO)
  obtain ⟨C1, hC1⟩ : ∃ C, (((lksTo 1 p p.evs.length).length : Int) == 0) = C := ⟨_, rfl⟩
  obtain ⟨C2, hC2⟩ : ∃ C, (((lksTo 2 p p.evs.length).length : Int) == 0) = C := ⟨_, rfl⟩
  obtain ⟨C3, hC3⟩ : ∃ C, (((lksTo 3 p p.evs.length).length : Int) == 0) = C := ⟨_, rfl⟩
  have hF : C1 = !lowP p := by rw [← hC1]; exact french_says hE
  have hSI : C3 = true → C2 = true := by rw [← hC3, ← hC2]; exact spanish_italian hE
  have KC : Hid (∀ w' : World, Below w.heap.size w w' → Calls Try.prog 35 #[pcValue M p] w' (CpCan p.cs.length p.st.length p.evs.length C1 C2 C3 w')) :=
    Lib.hid fun w' hbl => (rCopy_any M p w' (hP.after hbl) hO).mono fun e w1 ⟨M', he, hb1, hP1⟩ =>
      ⟨M'.1, M'.2, M'.3, M'.4, M'.5, M'.6, he, hb1, hC1 ▸ pCan_1 M' p w1 hP1 hO hE, hC2 ▸ pCan_2 M' p w1 hP1 hO hE, hC3 ▸ pCan_3 M' p w1 hP1 hO hE⟩
  have HEV := Lib.hid hP.2.1
  have H4 := Lib.hid hO.n4
  have hn3 := hO.n3
  obtain ⟨A1, A2, A3, c1, c2, c3⟩ := M
  obtain ⟨cs, st, evs⟩ := p
  unfold pcValue at *
  simp only at *
  generalize cs.length = n1 at *
  generalize st.length = n2 at *
  obtain ⟨n3, hnn⟩ : ∃ n, evs.length = n := ⟨_, rfl⟩
  rw [hnn] at KB KE KC hn3 ⊢
  have HN := Lib.hid hnn
  obtain ⟨LP, hLP⟩ : ∃ b, lowP ⟨cs, st, evs⟩ = b := ⟨_, rfl⟩
  rw [hLP] at hF
  have HLP : Hid (LP = (false || (evs.drop 0).any lowE)) := Lib.hid (by rw [← hLP]; simp [lowP])
  have HSI := Lib.hid hSI
  subst hF
  clear hP hO hb hE hC1 hC2 hC3 hnn hLP hSI
  go_enter Try.func11, Try.ntmps11
  go_wp2_with (first
    | (go_at_call 32; refine (KB.out _ (by repeat (first | exact Below.refl _ _ | assumption | refine bel_drewN ?_ _ | refine Below.drew ?_ | refine bel_alloc ?_ _ | refine Below.setCell ?_ (by first | omega | (simp; done) | (simp; omega)) _ | refine bel_step ?_ (by assumption)))).mono ?_; rintro e' w1 ⟨rfl, hb1⟩; have k1 := (Blk.new _ _ _).after hb1; have x0 : w1.cell? ⟨w.heap.size, 0, none⟩ = some (.slice A1 n1 c1) := k1.cell 0; have x1 : w1.cell? ⟨w.heap.size, 1, none⟩ = some (.slice A2 n2 c2) := k1.cell 1; have x2 : w1.cell? ⟨w.heap.size, 2, none⟩ = some (.slice A3 n3 c3) := k1.cell 2; have K1 := Lib.hid k1; clear k1)
    | (go_at_call 33; refine (KE.out _ (by repeat (first | exact Below.refl _ _ | assumption | refine bel_drewN ?_ _ | refine Below.drew ?_ | refine bel_alloc ?_ _ | refine Below.setCell ?_ (by first | omega | (simp; done) | (simp; omega)) _ | refine bel_step ?_ (by assumption)))).mono ?_; rintro e' w2 ⟨rfl, hb2⟩; have k1 := K1.out.after hb2; have x0 : w2.cell? ⟨w.heap.size, 0, none⟩ = some (.slice A1 n1 c1) := k1.cell 0; have x1 : w2.cell? ⟨w.heap.size, 1, none⟩ = some (.slice A2 n2 c2) := k1.cell 1; have x2 : w2.cell? ⟨w.heap.size, 2, none⟩ = some (.slice A3 n3 c3) := k1.cell 2; have K1 := Lib.hid k1; clear k1))
  go_loopw [3, 4] (fun v u wr => ∃ (k : Nat) (b : Bool), k ≤ n3 ∧ v = .bool b ∧ u = .int .i64 k ∧ LP = (b || (evs.drop k).any lowE) ∧ Below w.heap.size w wr ∧ Blk wr w.heap.size 63 #[.slice A1 n1 c1, .slice A2 n2 c2, .slice A3 n3 c3]) (fun _ u _ => n3 - (intOf u).toNat)
  case atStart => exact ⟨0, false, Nat.zero_le _, rfl, rfl, HLP.out, (by repeat (first | exact Below.refl _ _ | assumption | refine bel_drewN ?_ _ | refine Below.drew ?_ | refine bel_alloc ?_ _ | refine Below.setCell ?_ (by first | omega | (simp; done) | (simp; omega)) _ | refine bel_step ?_ (by assumption))), K1.out⟩
  case round =>
    clear x0 x1 x2
    obtain ⟨k, b, hk, rfl, rfl, hs, hbel, hblk⟩ := hrel
    have HR := Lib.hid hs
    have k1 := hblk
    have x0 : wr.cell? ⟨w.heap.size, 0, none⟩ = some (.slice A1 n1 c1) := k1.cell 0; have x1 : wr.cell? ⟨w.heap.size, 1, none⟩ = some (.slice A2 n2 c2) := k1.cell 1; have x2 : wr.cell? ⟨w.heap.size, 2, none⟩ = some (.slice A3 n3 c3) := k1.cell 2; have K1 := Lib.hid k1; clear k1
    clear hs hblk
    by_cases hlt : k < n3
    · have hk2 : k < evs.length := by have := HN.out; omega
      have hs2 := HR.out.trans (congrArg (b || ·) (any_at (f := lowE) hk2))
      have HS2 := Lib.hid hs2
      clear hs2
      go_wp2
      go_loopw [3, 5] (fun v u wq => ∃ (j : Nat) (bb : Bool), j ≤ evs[k].stops.length ∧ v = .bool bb ∧ u = .int .i64 j ∧ LP = (bb || ((evs[k].stops.drop j).any lowS || (evs.drop (k + 1)).any lowE)) ∧ Below w.heap.size w wq ∧ Blk wq w.heap.size 63 #[.slice A1 n1 c1, .slice A2 n2 c2, .slice A3 n3 c3]) (fun _ u _ => evs[k].stops.length - (intOf u).toNat)
      case atStart => exact ⟨0, b, Nat.zero_le _, rfl, rfl, by rw [HS2.out]; rfl, (by repeat (first | exact Below.refl _ _ | assumption | refine bel_drewN ?_ _ | refine Below.drew ?_ | refine bel_alloc ?_ _ | refine Below.setCell ?_ (by first | omega | (simp; done) | (simp; omega)) _ | refine bel_step ?_ (by assumption))), K1.out⟩
      case round =>
        clear x0 x1 x2 K1
        obtain ⟨j, bb, hj, rfl, rfl, hs, hbq, hblk⟩ := hrel
        have HJ := Lib.hid hs
        have K1 := Lib.hid hblk
        have x2 : wr.cell? ⟨w.heap.size, 2, none⟩ = some (.slice A3 n3 c3) := hblk.cell 2
        clear hs hblk
        obtain ⟨ad, S, c, hA, hadb, e0, e1, e2, e3, e4, e5, hS⟩ := (HEV.out.below hbq).ev hk2
        subst hA
        have HS := Lib.hid hS
        clear e0 e1 e2 e3 e4 hS
        obtain ⟨m, hm⟩ : ∃ m, evs[k].stops.length = m := ⟨_, rfl⟩
        rw [hm] at e5 hj ⊢
        have HM := Lib.hid hm
        have hm20 : m ≤ 20 := by have := H4.out k hk2; omega
        clear hm
        by_cases hlt2 : j < m
        · have hj2 : j < evs[k].stops.length := by have := HM.out; omega
          obtain ⟨sd, hsd, hsb, y0, y1, y2, y3, y4⟩ := HS.out.stp hj2
          subst hsd
          have hjs := HJ.out.trans (congrArg (fun q => bb || (q || (evs.drop (k + 1)).any lowE)) (any_at (f := lowS) hj2))
          have hlo : lowS (evs[k].stops[j]) = (decide (10 < evs[k].stops[j].1) && decide (0 < evs[k].stops[j].2.1)) := rfl
          rw [hlo] at hjs
          clear hlo y2 y3 y4
          generalize evs[k].stops[j].1 = q0 at *
          generalize evs[k].stops[j].2.1 = q1 at *
          have HJS := Lib.hid hjs
          clear hjs
          cases bb
          · by_cases hc : 10 < q0
            · have d1 : decide (10 < q0) = true := decide_eq_true hc
              obtain ⟨F, hF⟩ : ∃ F, decide (0 < q1) = F := ⟨_, rfl⟩
              have HF := Lib.hid (show LP = (F || ((evs[k].stops.drop (j + 1)).any lowS || (evs.drop (k + 1)).any lowE)) by rw [HJS.out, d1, hF]; simp [Bool.or_assoc])
              clear hc HJS
              go_wp2
              go_roundw
              case rel => exact ⟨j + 1, F, by have := HM.out; omega, by first | rfl | rw [hF], by go_num, HF.out, hbq, K1.out⟩
              case measure => have := HM.out; simp [intOf]; omega
            · have d1 : decide (10 < q0) = false := decide_eq_false hc
              have HF := Lib.hid (show LP = (false || ((evs[k].stops.drop (j + 1)).any lowS || (evs.drop (k + 1)).any lowE)) by rw [HJS.out, d1]; simp)
              clear hc HJS
              go_wp2
              go_roundw
              case rel => exact ⟨j + 1, false, by have := HM.out; omega, rfl, by go_num, HF.out, hbq, K1.out⟩
              case measure => have := HM.out; simp [intOf]; omega
          · have HF := Lib.hid (show LP = (true || ((evs[k].stops.drop (j + 1)).any lowS || (evs.drop (k + 1)).any lowE)) by rw [HJS.out]; rfl)
            go_wp2
            go_roundw
            case rel => exact ⟨j + 1, true, by have := HM.out; omega, rfl, by go_num, HF.out, hbq, K1.out⟩
            case measure => have := HM.out; simp [intOf]; omega
        · have HF := Lib.hid (show LP = (bb || (evs.drop (k + 1)).any lowE) by rw [HJ.out, List.drop_eq_nil_of_le (by have := HM.out; omega)]; rfl)
          go_wp2
          go_roundw
          case rel => exact ⟨k + 1, bb, by omega, rfl, by go_num, HF.out, hbq, K1.out⟩
          case measure => simp [intOf]; omega
    · have hLP : LP = b := by rw [HR.out, List.drop_eq_nil_of_le (by have := HN.out; omega)]; simp
      clear HR HLP
      subst hLP
      cases C3 with
      | false =>
        cases LP
        all_goals
          go_wp2_with (first
            | (go_at_call 35; refine (KC.out _ (by repeat (first | exact Below.refl _ _ | assumption | refine bel_drewN ?_ _ | refine Below.drew ?_ | refine bel_alloc ?_ _ | refine Below.setCell ?_ (by first | omega | (simp; done) | (simp; omega)) _ | refine bel_step ?_ (by assumption)))).mono ?_; rintro e' w1 ⟨B1, B2, B3, d1, d2, d3, rfl, hb1, q1, q2, q3⟩; have Q1 := Lib.hid q1; have Q3 := Lib.hid q3; clear q1 q2 q3; have k1 := K1.out.after hb1; have x0 : w1.cell? ⟨w.heap.size, 0, none⟩ = some (.slice A1 n1 c1) := k1.cell 0; have x1 : w1.cell? ⟨w.heap.size, 1, none⟩ = some (.slice A2 n2 c2) := k1.cell 1; have x2 : w1.cell? ⟨w.heap.size, 2, none⟩ = some (.slice A3 n3 c3) := k1.cell 2; have K1 := Lib.hid k1; clear k1)
            | (go_at_call 34; (with_reducible refine Q1.out.mono ?_); rintro e' w2 ⟨rfl, hb2⟩; have k1 := K1.out.after hb2; have x0 : w2.cell? ⟨w.heap.size, 0, none⟩ = some (.slice A1 n1 c1) := k1.cell 0; have x1 : w2.cell? ⟨w.heap.size, 1, none⟩ = some (.slice A2 n2 c2) := k1.cell 1; have x2 : w2.cell? ⟨w.heap.size, 2, none⟩ = some (.slice A3 n3 c3) := k1.cell 2; have K1 := Lib.hid k1; clear k1 Q1)
            | (go_at_call 34; (with_reducible refine Q3.out.mono ?_); rintro e' w2 ⟨rfl, hb2⟩)
            | (go_at_call 14; refine (works_any _).mono ?_; rintro e' w3 ⟨rfl, hb3⟩))
          go_ret
          exact Ret.mk' rfl (by repeat (first | exact Below.refl _ _ | assumption | refine bel_drewN ?_ _ | refine Below.drew ?_ | refine bel_alloc ?_ _ | refine Below.setCell ?_ (by first | omega | (simp; done) | (simp; omega)) _ | refine bel_step ?_ (by assumption)))
      | true =>
        obtain rfl := HSI.out rfl
        cases LP
        all_goals
          go_wp2_with (first
            | (go_at_call 35; refine (KC.out _ (by repeat (first | exact Below.refl _ _ | assumption | refine bel_drewN ?_ _ | refine Below.drew ?_ | refine bel_alloc ?_ _ | refine Below.setCell ?_ (by first | omega | (simp; done) | (simp; omega)) _ | refine bel_step ?_ (by assumption)))).mono ?_; rintro e' w1 ⟨B1, B2, B3, d1, d2, d3, rfl, hb1, q1, q2, q3⟩; have Q1 := Lib.hid q1; have Q2 := Lib.hid q2; have Q3 := Lib.hid q3; clear q1 q2 q3; have k1 := K1.out.after hb1; have x0 : w1.cell? ⟨w.heap.size, 0, none⟩ = some (.slice A1 n1 c1) := k1.cell 0; have x1 : w1.cell? ⟨w.heap.size, 1, none⟩ = some (.slice A2 n2 c2) := k1.cell 1; have x2 : w1.cell? ⟨w.heap.size, 2, none⟩ = some (.slice A3 n3 c3) := k1.cell 2; have K1 := Lib.hid k1; clear k1)
            | (go_at_call 34; (with_reducible refine Q1.out.mono ?_); rintro e' w2 ⟨rfl, hb2⟩; have k1 := K1.out.after hb2; have x0 : w2.cell? ⟨w.heap.size, 0, none⟩ = some (.slice A1 n1 c1) := k1.cell 0; have x1 : w2.cell? ⟨w.heap.size, 1, none⟩ = some (.slice A2 n2 c2) := k1.cell 1; have x2 : w2.cell? ⟨w.heap.size, 2, none⟩ = some (.slice A3 n3 c3) := k1.cell 2; have K1 := Lib.hid k1; clear k1 Q1)
            | (go_at_call 34; (with_reducible refine Q3.out.mono ?_); rintro e' w2 ⟨rfl, hb2⟩; have k1 := K1.out.after hb2; have x0 : w2.cell? ⟨w.heap.size, 0, none⟩ = some (.slice A1 n1 c1) := k1.cell 0; have x1 : w2.cell? ⟨w.heap.size, 1, none⟩ = some (.slice A2 n2 c2) := k1.cell 1; have x2 : w2.cell? ⟨w.heap.size, 2, none⟩ = some (.slice A3 n3 c3) := k1.cell 2; have K1 := Lib.hid k1; clear k1 Q3)
            | (go_at_call 34; (with_reducible refine Q2.out.mono ?_); rintro e' w2 ⟨rfl, hb2⟩)
            | (go_at_call 14; refine (works_any _).mono ?_; rintro e' w3 ⟨rfl, hb3⟩))
          go_ret
          exact Ret.mk' rfl (by repeat (first | exact Below.refl _ _ | assumption | refine bel_drewN ?_ _ | refine Below.drew ?_ | refine bel_alloc ?_ _ | refine Below.setCell ?_ (by first | omega | (simp; done) | (simp; omega)) _ | refine bel_step ?_ (by assumption)))
theorem says_walk (M : PM) (p : Pce) (w : World) (hP : PcAt w w.heap.size M p) : Calls Try.prog 11 #[pcValue M p] w (Ret (.bool true) w) := by
  cases hb : bigB p with
  | true => exact says_big M p w hP hb
  | false =>
    by_cases hE : pceE p = 0
    · exact says_ok M p w hP hb hE
    · exact says_bad M p w hP hb hE
end Go.Proofs.Yteldgllgagjciaa

namespace Go.Proofs.Yteldgllgagjciaa.notationSays
open Go.ChangeShapes Go.WideShapes Go.ChangeAt Go.RowKit Go.Joins
set_option maxRecDepth 100000
set_option linter.unusedVariables false
set_option linter.unusedSimpArgs false
theorem own : ownKnob Try.prog.godebug = none := by kernel_rfl
theorem lifted (os : Os) (started : os.Started) (H : Type) (enc : TypeId × Value → H) :
    ReturnsInHanded {} Try.checked os 11 .any (Rows.notationSaysSpec.pre6 enc Try.prog Try.f11 Rows.notationSaysRow.domain false) (Rows.notationSaysSpec.post enc Try.prog Try.f11 false true false false) := by
  refine returnsInHanded_of_change (C := Try.checked) own started (by kernel_rfl) Try.func11
    (ChangeSpec.witness6 (enc := enc) (C := Try.checked) false ⟨#[], #[.agg #[.slice none 0 0, .slice none 0 0, .slice none 0 0]], []⟩ 8 (by kernel_rfl) (by kernel_rfl) (by kernel_rfl) (by kernel_rfl)) ?_
  intro W base args ds gs before hval0 hW hcnd _
  have hval : ∀ (j : Nat) t v, Try.f11.params[j]? = some t → args[j]? = some v → Value.okWide Try.prog W .any base t v := hval0
  have hW' := hW
  obtain ⟨p, q, hA0, hV, rfl, hfz, hnd⟩ := hW
  have hA : DataW.TrodAll enc Try.prog W 0 (fun _ => true) true Try.f11.params.toList args.toList ds p := hA0
  have hAk := hA
  rw [Try.params11] at hA hval
  obtain ⟨v0, vs0, d0, ds0, p0, q0, hargs, rfl, rfl, h0, r0⟩ := trodAll_cons hA
  obtain ⟨rfl, rfl, rfl⟩ := trodAll_nil r0
  obtain rfl : args = #[v0] := by cases args; simp_all
  obtain ⟨rfl, rfl⟩ := trodVars_none hV
  obtain ⟨M0, pc0, rfl, hP0⟩ := open_piece_arg (hval 0 63 v0 rfl rfl) h0
  clear hA0 hval0
  simp only [List.append_nil] at hW' hAk
  refine (says_walk M0 pc0 W hP0).mono fun e W' ⟨he, hg⟩ => ?_
  subst he
  exact ⟨_, rfl, post_of_below (pv := []) hW' (fun _ _ _ => (trodAll_cons_mk (shut_bool Try.underlying4 _) trodAll_mk0)) (fun sp hsp => args_keep typesKids slicesFull (by rw [Try.params11]; decide) hAk hg (fun x hx => hW'.lt x (by simpa using hx)) (fun x hx => hsp x (by simpa using hx))) (fun _ _ => rfl) (by simp)
    hg (ok_one (by kernel_rfl) rfl (okWide_bool_mk Try.underlying4 _))⟩

theorem over : Rows.notationSaysRow.holds Try.pinned (OpenSpec.ofChange Rows.notationSaysSpec) :=
  OpenClaim.holds_of_wide 11 Try.f11 rfl rfl rfl rfl rfl rfl rfl ⟨rfl, rfl, rfl, rfl, rfl⟩ rfl rfl rfl rfl rfl (by kernel_rfl) Try.func11 (by kernel_rfl)
    (of_decide_eq_true (by kernel_rfl)) (by unfold Func.isWrapper; first | (rw [if_pos (by decide +kernel)]; kernel_rfl) | (rw [if_neg (by decide +kernel)]; exact ⟨rfl, rfl⟩))
    (fun os started H enc _ => lifted os started H enc)

theorem proved : Rows.NotationSaysSaid :=
  over
#print axioms proved
end Go.Proofs.Yteldgllgagjciaa.notationSays
