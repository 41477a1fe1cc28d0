/- What a system lacks of a piece: the reference, over trees. -/
import Derived.Test.YtkgnmddakiagbaaGreatDoorREv
import Derived.Test.YtkgnmddakiagbaaGreatDoorChQ
import Derived.Test.YtkgnmddakiagbaaGreatDoorSr
import Derived.Test.YtkgnmddakiagbaaGreatDoorES
import Derived.Test.YtkgnmddakiagbaaGreatDoorEZ
import Derived.Test.YtkgnmddakiagbaaGreatDoorEW
import Derived.Test.YtkgnmddakiagbaaGreatDoorLkB
import Derived.Test.YtkgnmddakiagbaaGreatDoorRLg
import Derived.Test.YtkgnmddakiagbaaGreatDoorSym

/- Check of a piece: the reference. -/
namespace Go.Proofs.YtkgnmddakiagbaaGreatDoor
open Go.RowKit
set_option maxHeartbeats 4000000
set_option maxRecDepth 100000
set_option linter.unusedVariables false
set_option linter.unusedSimpArgs false
theorem rCheck_any (M : PM) (p : Pce) (w : World) (hP : PcAt w w.heap.size M p) (hO : PcOk p) : Calls Tryz.prog 35 #[pcValue M p] w (Ret (.int .i64 (pceE p)) w) := by
  obtain ⟨A1, A2, A3, c1, c2, c3⟩ := M
  have hn3 := hO.n3
  have hCI := fun (w' : World) (hI : InsAt w' w'.heap.size A1 A2 p.cs p.st) => rInsCheck A1 A2 p.cs p.st p.cs.length p.st.length c1 c2 w' hI rfl rfl
  have hEV := fun (i : Nat) (hi : i < p.evs.length) (w' : World) (hb : Below w.heap.size w w') => rEvent_any ⟨A1, A2, A3, c1, c2, c3⟩ p i hi w' (hP.after hb) hO
  have HE1 := Lib.hid (pceE_ins (p := p))
  have HE2 := Lib.hid (pceE_many (p := p))
  have HE3 := Lib.hid (pceE_evs (p := p))
  unfold pcValue at *
  simp only at *
  obtain ⟨n1, hn1⟩ : ∃ n, p.cs.length = n := ⟨_, rfl⟩
  obtain ⟨n2, hn2⟩ : ∃ n, p.st.length = n := ⟨_, rfl⟩
  obtain ⟨n3, hnn⟩ : ∃ n, p.evs.length = n := ⟨_, rfl⟩
  have HN := Lib.hid hnn
  have HK := Lib.hid hnn
  simp only [hn1, hn2] at hCI hEV
  have hEV2 : ∀ (i : Nat) (hi : i < p.evs.length) (w' : World), Below w.heap.size w w' → Calls Tryz.prog 94 #[.agg #[.slice A1 n1 c1, .slice A2 n2 c2, .slice A3 n3 c3], .int .i64 i] w' (Ret (.int .i64 (evE p i p.evs[i])) w') := by
    intro i hi w' hb
    have := hEV i hi w' hb
    rw [hnn] at this
    exact this
  rw [hnn] at hn3
  rw [hn1, hn2, hnn]
  have KI := Lib.hid hCI
  have KE := Lib.hid hEV2
  have HI := Lib.hid (fun o => (hP.1.alloc (Nat.le_refl _) o).more (show w.heap.size ≤ (w.alloc o).heap.size by simp))
  obtain ⟨E, hE⟩ : ∃ E, insE p.cs p.st = E := ⟨_, rfl⟩
  rw [hE] at KI
  have HPI := Lib.hid hE
  clear hP hO hCI hEV hEV2 hn1 hn2 hnn hE
  by_cases b0 : E ≠ 0
  · rw [HE1.out (by rw [HPI.out]; exact b0), HPI.out]
    have e1 : (E == 0) = false := by simpa using b0
    have e2 : (E != 0) = true := by simpa using b0
    clear b0
    go_enter Tryz.func35, Tryz.ntmps35
    go_wp2_with (go_at_call 93; refine (KI.out _ (HI.out _)).mono ?_; rintro e' w1 ⟨rfl, hb1⟩)
    go_ret
    exact Ret.mk' rfl (by repeat (first | exact Below.refl _ _ | assumption | refine bel_drewN ?_ _ | refine Below.drew ?_ | refine bel_alloc ?_ _ | refine Below.setCell ?_ (by first | omega | (simp; done) | (simp; omega)) _ | refine bel_step ?_ (by assumption)))
  · have b0' : E = 0 := by omega
    subst b0'
    by_cases b1 : 400 < n3
    · rw [HE2.out (by rw [HPI.out]; exact b0) (by rw [HN.out]; exact b1)]
      clear b0
      go_enter Tryz.func35, Tryz.ntmps35
      go_wp2_with (go_at_call 93; refine (KI.out _ (HI.out _)).mono ?_; rintro e' w1 ⟨rfl, hb1⟩; have k1 := (Blk.new _ _ _).after hb1; have x2 : w1.cell? ⟨w.heap.size, 2, none⟩ = some (.slice A3 n3 c3) := k1.cell 2; clear k1)
      go_ret
      exact Ret.mk' rfl (by repeat (first | exact Below.refl _ _ | assumption | refine bel_drewN ?_ _ | refine Below.drew ?_ | refine bel_alloc ?_ _ | refine Below.setCell ?_ (by first | omega | (simp; done) | (simp; omega)) _ | refine bel_step ?_ (by assumption)))
    · rw [HE3.out (by rw [HPI.out]; exact b0) (by rw [HN.out]; exact b1)]
      obtain ⟨V, hV⟩ : ∃ V, evsE p 0 p.evs = V := ⟨_, rfl⟩
      rw [hV]
      have HV := Lib.hid hV
      clear b0 hV
      go_enter Tryz.func35, Tryz.ntmps35
      go_wp2_with (go_at_call 93; refine (KI.out _ (HI.out _)).mono ?_; rintro e' w1 ⟨rfl, hb1⟩; have k1 := (Blk.new _ _ _).after hb1; have x2 : w1.cell? ⟨w.heap.size, 2, none⟩ = some (.slice A3 n3 c3) := k1.cell 2; have K1 := Lib.hid k1; clear k1)
      go_loopw [3, 4] (fun u i wr => ∃ k : Nat, k ≤ n3 ∧ u = .int .i64 0 ∧ i = .int .i64 k ∧ V = evsE p k (p.evs.drop k) ∧ Below w.heap.size w wr ∧ Blk wr w.heap.size 29 #[.slice A1 n1 c1, .slice A2 n2 c2, .slice A3 n3 c3]) (fun _ i _ => n3 - (intOf i).toNat)
      case atStart => exact ⟨0, Nat.zero_le _, rfl, rfl, HV.out.symm, (by repeat (first | exact Below.refl _ _ | assumption | refine bel_drewN ?_ _ | refine Below.drew ?_ | refine bel_alloc ?_ _ | refine Below.setCell ?_ (by first | omega | (simp; done) | (simp; omega)) _ | refine bel_step ?_ (by assumption))), K1.out⟩
      case round =>
        clear x2
        obtain ⟨k, hk, rfl, rfl, hs, hbel, hblk⟩ := hrel
        have HR := Lib.hid hs
        have HB := Lib.hid hblk
        have hlt0 : w.heap.size < wr.heap.size := hblk.lt
        have q0 : wr.cell? ⟨w.heap.size, 0, none⟩ = some (.slice A1 n1 c1) := hblk.cell 0
        have q1 : wr.cell? ⟨w.heap.size, 1, none⟩ = some (.slice A2 n2 c2) := hblk.cell 1
        have q2 : wr.cell? ⟨w.heap.size, 2, none⟩ = some (.slice A3 n3 c3) := hblk.cell 2
        clear hs hblk
        by_cases hlt : k < n3
        · have hk2 : k < p.evs.length := by have := HN.out; omega
          have hs2 := HR.out.trans (evsE_at hk2)
          have hke := KE.out k hk2 wr hbel
          obtain ⟨G, hG⟩ : ∃ G, evE p k p.evs[k] = G := ⟨_, rfl⟩
          rw [hG] at hs2 hke
          have KG := Lib.hid hke
          clear hG hke
          by_cases hG0 : G = 0
          · subst hG0
            rw [if_neg (by decide)] at hs2
            have HR2 := Lib.hid hs2
            clear hs2
            go_wp2_with (go_at_call 94; refine KG.out.mono ?_; rintro e' w2 ⟨rfl, hb2⟩; have KP := Lib.hid (HB.out.after hb2))
            go_roundw
            case rel => exact ⟨k + 1, by omega, rfl, by go_num, HR2.out, (by repeat (first | exact Below.refl _ _ | assumption | refine bel_drewN ?_ _ | refine Below.drew ?_ | refine bel_alloc ?_ _ | refine Below.setCell ?_ (by first | omega | (simp; done) | (simp; omega)) _ | refine bel_step ?_ (by assumption))), KP.out⟩
            case measure => simp [intOf]; omega
          · rw [if_pos hG0] at hs2
            have HE4 := Lib.hid hs2
            have d1 : (G == 0) = false := by simpa using hG0
            have d2 : (G != 0) = true := by simpa using hG0
            clear hs2 hG0
            go_wp2_with (go_at_call 94; refine KG.out.mono ?_; rintro e' w2 ⟨rfl, hb2⟩)
            go_ret
            exact Ret.mk' (by rw [HE4.out]; rfl) (by repeat (first | exact Below.refl _ _ | assumption | refine bel_drewN ?_ _ | refine Below.drew ?_ | refine bel_alloc ?_ _ | refine Below.setCell ?_ (by first | omega | (simp; done) | (simp; omega)) _ | refine bel_step ?_ (by assumption)))
        · have HE4 := Lib.hid (HR.out.trans (show evsE p k (p.evs.drop k) = 0 from by rw [List.drop_eq_nil_of_le (by have := HN.out; omega)]; rfl))
          go_wp2
          go_ret
          exact Ret.mk' (by rw [HE4.out]; rfl) (by repeat (first | exact Below.refl _ _ | assumption | refine bel_drewN ?_ _ | refine Below.drew ?_ | refine bel_alloc ?_ _ | refine Below.setCell ?_ (by first | omega | (simp; done) | (simp; omega)) _ | refine bel_step ?_ (by assumption)))
end Go.Proofs.YtkgnmddakiagbaaGreatDoor

namespace Go.Proofs.YtkgnmddakiagbaaGreatDoor
open Go.RowKit
set_option linter.unusedVariables false
set_option linter.unusedSimpArgs false
set_option maxRecDepth 100000
set_option maxHeartbeats 8000000
def hd1 (s i : Int) (e : Ev) : List Lck := if s = 4 ∧ e.three = true then [(i, 0, 5)] else []
def hd2 (s i : Int) (e : Ev) : List Lck := if s = 4 ∧ e.val = 0 then [(i, 0, 6)] else []
def hd3 (s i : Int) (e : Ev) : List Lck := if s = 4 ∧ e.tie = true then [(i, 0, 7)] else []
def hd4 (s i : Int) (e : Ev) : List Lck := if s = 3 ∧ restB e = true then [(i, 0, 8)] else []
theorem head_eq {s i : Int} {e : Ev} (hs : 1 ≤ s ∧ s ≤ 4) (h : sgOk e.val e.dot e.three = true) : hd1 s i e ++ hd2 s i e ++ hd3 s i e ++ hd4 s i e = lackHead s i e := by
  obtain ⟨bar, val, dot, three, tie, stops⟩ := e
  have h2 : val = 0 → three = false := by
    rintro rfl
    cases three with
    | false => rfl
    | true => cases dot <;> simp [sgOk] at h
  have hs4 : s = 1 ∨ s = 2 ∨ s = 3 ∨ s = 4 := by omega
  unfold hd1 hd2 hd3 hd4 lackHead lkIf hasS restB
  by_cases hv : val = 0
  · have := h2 hv
    subst this
    subst hv
    rcases hs4 with rfl | rfl | rfl | rfl <;> cases tie <;> by_cases hn : stops.length = 0 <;> simp [hn]
  · rcases hs4 with rfl | rfl | rfl | rfl <;> cases tie <;> cases three <;> by_cases hn : stops.length = 0 <;> simp [hn, hv]
theorem wants_eq {s i : Int} {c f r g h : Int} {L : Int → Nat} (hs : 1 ≤ s ∧ s ≤ 4) (hc : 1 ≤ c ∧ c ≤ 14) (hf : 0 ≤ f ∧ f ≤ 18) : (wants s c f r g h (L c)).map (fun x => ((i, c, x) : Lck)) = lackStop s i L (c, f, r, g, h) := by
  have h1 := (sym_law s c f hs hc hf).1
  unfold wants lackStop lkIf
  simp only
  by_cases e : rS s c f = []
  · rw [if_pos e, if_pos (by rw [h1, e]; rfl)]; rfl
  · have hp : pOk s c f = true := by rw [h1]; simpa using e
    rw [if_neg e]
    by_cases h2 : okR s r = true <;> by_cases h3 : okG s g = true <;> by_cases h4 : okH s h (L c) = true <;> simp [hp, h2, h3, h4]
theorem wants_len (s c f r g h L : Int) : (wants s c f r g h L).length ≤ 3 := by
  unfold wants
  split
  · simp
  · split <;> split <;> split <;> simp
/-- An event as a value. -/
theorem ev_of_rp {F : View} {w : World} {e : Ev} {v : Value} (hF : ∀ p u, F p = some u → w.cell? p = some u) (r : RP F (.ag (eEv e)) v) : ∃ S c, v = evVal e S c := by
  obtain ⟨cs, rfl, h1, h2⟩ : ∃ cs : Array Value, v = .agg cs ∧ cs.size = 6 ∧ ∀ (i : Nat) av u, (eEv e)[i]? = some av → cs[i]? = some u → RP F av u := by
    cases r with | ag l cs a b => exact ⟨cs, rfl, a, b⟩
  have g : ∀ i (h : i < 6), cs[i]? = some (cs[i]'(by omega)) := fun i h => Array.getElem?_eq_getElem (by omega)
  obtain ⟨A, c, e5, _, _⟩ := stps_of_rp hF (h2 5 _ _ rfl (g 5 (by omega)))
  refine ⟨A, c, ?_⟩
  unfold evVal
  congr 1
  apply Array.ext (by simp [h1])
  intro i hi hi2
  match i, (show i < 6 by omega) with
  | 0, _ => exact (h2 0 _ _ rfl (g 0 (by omega))).sc_eq
  | 1, _ => exact (h2 1 _ _ rfl (g 1 (by omega))).sc_eq
  | 2, _ => exact (h2 2 _ _ rfl (g 2 (by omega))).sc_eq
  | 3, _ => exact (h2 3 _ _ rfl (g 3 (by omega))).sc_eq
  | 4, _ => exact (h2 4 _ _ rfl (g 4 (by omega))).sc_eq
  | 5, _ => exact e5
theorem rest_FS (e : Ev) : Ctr Tryz.prog 130 [.ag (eEv e)] (.sc (.bool (restB e))) := by
  intro w F vs hF hR
  match vs, hR.1 with
  | [v], _ =>
    obtain ⟨S, c, rfl⟩ := ev_of_rp hF (hR.2 0 _ v rfl rfl)
    exact (rRest_any e S c w).mono fun e w' ⟨he, hb⟩ => ⟨_, F, he, hb, fun _ _ h => h, fun p u x => by rw [hb.cell (cell_block (hF p u x))]; exact hF p u x, fun _ _ h => .inl h, .sc _⟩
theorem rLong_FS (p : Pce) (hO : PcOk p) (i x : Int) : Ctr Tryz.prog 154 [ePce p, .sc (.int .i64 i), .sc (.int .i64 x)] (.sc (.int .i64 (longestN p.evs i x))) :=
  Ctr.of_pc (pre := []) (post := [.sc (.int .i64 i), .sc (.int .i64 x)]) rfl rfl (fun _ => .sc _) fun w M hM => rLongest_any M p i x w hM hO
theorem rCheck_FS (p : Pce) (hO : PcOk p) : Ctr Tryz.prog 35 [ePce p] (.sc (.int .i64 (pceE p))) :=
  Ctr.of_pc (pre := []) (post := []) rfl rfl (fun _ => .sc _) fun w M hM => rCheck_any M p w hM hO
theorem known_FS (s : Int) : Ctr Tryz.prog 77 [.sc (.int .u8 s)] (.sc (.bool (decide (1 ≤ s ∧ s ≤ 4)))) :=
  Ctr.of_sc (xs := [.int .u8 s]) rfl (fun _ => .sc _) fun w => (known_any s w).mono fun e w' ⟨he, hw⟩ => ⟨he, hw ▸ Below.refl _ _⟩
theorem rlack_FS (s : Int) (hs : 1 ≤ s ∧ s ≤ 4) (p : Pce) (i : Nat) (hi : i < p.evs.length) (hO : PcOk p) (h0 : pceE p = 0) :
    Ctr Tryz.prog 125 [.sc (.int .u8 s), ePce p, .sc (.int .i64 i)] (.ls 3 ((lackE s p i p.evs[i]).map eLk)) := by
  have hv := stopsIn_of h0 i hi
  have hsg := (evE_zero ((pceE_zero h0).2.2 i hi)).1
  have h20 := hO.n4 i hi
  have hn3 := hO.n3
  have hH := head_eq (i := i) hs hsg
  obtain ⟨X, hX0, hXs, hXl, hXe⟩ : ∃ X : Nat → List Lck, X 0 = lackHead s i p.evs[i] ∧ (∀ k (h : k < p.evs[i].stops.length), X (k + 1) = X k ++ lackStop s i (fun c => longestN p.evs i c) p.evs[i].stops[k]) ∧
      (∀ k, k ≤ p.evs[i].stops.length → (X k).length ≤ 200) ∧ X p.evs[i].stops.length = lackE s p i p.evs[i] := by
    refine ⟨fun k => lackHead s i p.evs[i] ++ (p.evs[i].stops.take k).flatMap (lackStop s i fun c => longestN p.evs i c), by simp, fun k h => ?_, fun k h => ?_, ?_⟩
    · simp only
      rw [flat_snoc s i (fun c => longestN p.evs i c) p.evs[i].stops k h, List.append_assoc]
    · have a := flat_len s i (fun c => longestN p.evs i c) (p.evs[i].stops.take k)
      have b : (lackHead s i p.evs[i]).length ≤ 4 := by
        rw [← hH]
        have b1 : (hd1 s i p.evs[i]).length ≤ 1 := by unfold hd1; split <;> simp
        have b2 : (hd2 s i p.evs[i]).length ≤ 1 := by unfold hd2; split <;> simp
        have b3 : (hd3 s i p.evs[i]).length ≤ 1 := by unfold hd3; split <;> simp
        have b4 : (hd4 s i p.evs[i]).length ≤ 1 := by unfold hd4; split <;> simp
        simp only [List.length_append]; omega
      have c : (p.evs[i].stops.take k).length ≤ 20 := by rw [List.length_take]; omega
      simp only [List.length_append]; omega
    · simp only [List.take_length]; rfl
  refine Ctr.intro Tryz.func125 rfl Tryz.ntmps125 (Nat.le_of_ble_eq_true rfl) (bd_all rfl) fun w0 F0 => ?_; dsimp only [St.init, number, Nat.reduceAdd]
  obtain ⟨l1, e1⟩ : ∃ l, hd1 s i p.evs[i] = l := ⟨_, rfl⟩
  obtain ⟨l2, e2⟩ : ∃ l, hd2 s i p.evs[i] = l := ⟨_, rfl⟩
  obtain ⟨l3, e3⟩ : ∃ l, hd3 s i p.evs[i] = l := ⟨_, rfl⟩
  obtain ⟨l4, e4⟩ : ∃ l, hd4 s i p.evs[i] = l := ⟨_, rfl⟩
  rw [e1, e2, e3, e4] at hH
  have b1 : l1.length ≤ 1 := by rw [← e1]; unfold hd1; split <;> simp
  have b2 : l2.length ≤ 1 := by rw [← e2]; unfold hd2; split <;> simp
  have b3 : l3.length ≤ 1 := by rw [← e3]; unfold hd3; split <;> simp
  have b4 : l4.length ≤ 1 := by rw [← e4]; unfold hd4; split <;> simp
  repeat (first | refine W.go rfl ?_ | refine WL.ev rfl ?_ | refine WL.gyes rfl rfl rfl rfl ?_ | refine WL.opno rfl rfl rfl rfl rfl rfl rfl ?_ | refine WL.ar rfl rfl (by unfold I64; omega) ?_ | refine WL.len rfl rfl (by first | exact List.length_map _ | exact List.length_replicate | rfl) ?_ | refine WL.idx rfl rfl (by omega) (by first | exact map_at (by omega) | exact map_atZ (by omega) (by omega)) ?_ | refine WL.app rfl rfl rfl (by first | omega | (simp; done) | (simp; omega)) ?_ | refine W.condF rfl ?_)
  (first | refine (?_ : W _ _ _ _ _) | refine (?_ : WL _ _ _ _ _ _) | skip)
  try dsimp only [St.put, Nat.reduceAdd]
  refine WL.tr (Tr.nil (t := 7) 262 3 rfl rfl) ?_
  dsimp only [St.put, St.new, Nat.reduceAdd]
  refine WL.meet2 ⟨[(0, .sc (.int .u8 s)), (2, .sc (.int .i64 i)), (4, .pt 0 0 0), (7, .sl 2), (8, .pt 1 0 0)], [(0, .box 29 (ePce p).cells), (1, .box 78 (eEv p.evs[i])), (2, .row 262 3 (l1.map eLk))], 3⟩ ?_ ?_
  · refine WL.partG rfl rfl rfl rfl (fun hp => ?_) (fun hp => ?_)
    · have hp : s = 4 := of_decide_eq_true hp
      repeat (first | refine W.go rfl ?_ | refine WL.ev rfl ?_ | refine WL.gyes rfl rfl rfl rfl ?_ | refine WL.opno rfl rfl rfl rfl rfl rfl rfl ?_ | refine WL.ar rfl rfl (by unfold I64; omega) ?_ | refine WL.len rfl rfl (by first | exact List.length_map _ | exact List.length_replicate | rfl) ?_ | refine WL.idx rfl rfl (by omega) (by first | exact map_at (by omega) | exact map_atZ (by omega) (by omega)) ?_ | refine WL.app rfl rfl rfl (by first | omega | (simp; done) | (simp; omega)) ?_ | refine W.condF rfl ?_)
      (first | refine (?_ : W _ _ _ _ _) | refine (?_ : WL _ _ _ _ _ _) | skip)
      try dsimp only [St.put, Nat.reduceAdd]
      (refine W.cond rfl (fun hif => ?_) (fun hif => ?_) <;> (try simp only [decide_eq_true_eq, decide_eq_false_iff_not, Int.not_lt, Int.not_le, Bool.not_eq_true', Bool.not_eq_false'] at hif))
      · obtain rfl : l1 = [((i : Int), 0, 5)] := by
          rw [← e1]; exact if_pos ⟨hp, by simpa using hif⟩
        repeat (first | refine W.go rfl ?_ | refine WL.ev rfl ?_ | refine WL.gyes rfl rfl rfl rfl ?_ | refine WL.opno rfl rfl rfl rfl rfl rfl rfl ?_ | refine WL.ar rfl rfl (by unfold I64; omega) ?_ | refine WL.len rfl rfl (by first | exact List.length_map _ | exact List.length_replicate | rfl) ?_ | refine WL.idx rfl rfl (by omega) (by first | exact map_at (by omega) | exact map_atZ (by omega) (by omega)) ?_ | refine WL.app rfl rfl rfl (by first | omega | (simp; done) | (simp; omega)) ?_ | refine W.condF rfl ?_)
        (first | refine (?_ : W _ _ _ _ _) | refine (?_ : WL _ _ _ _ _ _) | skip)
        try dsimp only [St.put, Nat.reduceAdd]
        refine (?_ : Tr _ _ _)
        exact (Tr.ren (fun q => bif Nat.beq q 2 then 4 else q) (by repeat (first | exact trivial | refine ⟨⟨?_, ?_⟩, ?_⟩ | rfl)) (by repeat (first | exact trivial | refine ⟨⟨?_, ?_, ?_⟩, ?_⟩ | rfl | exact congrArg (fun q => some (AO.row _ _ q)) (by first | rfl | (simp; done) | (simp [eInt]; done) | (simp [eLk]; done)))) rfl)
      · obtain rfl : l1 = [] := by
          rw [← e1]; exact if_neg fun x => absurd x.2 (by simpa using hif)
        repeat (first | refine W.go rfl ?_ | refine WL.ev rfl ?_ | refine WL.gyes rfl rfl rfl rfl ?_ | refine WL.opno rfl rfl rfl rfl rfl rfl rfl ?_ | refine WL.ar rfl rfl (by unfold I64; omega) ?_ | refine WL.len rfl rfl (by first | exact List.length_map _ | exact List.length_replicate | rfl) ?_ | refine WL.idx rfl rfl (by omega) (by first | exact map_at (by omega) | exact map_atZ (by omega) (by omega)) ?_ | refine WL.app rfl rfl rfl (by first | omega | (simp; done) | (simp; omega)) ?_ | refine W.condF rfl ?_)
        (first | refine (?_ : W _ _ _ _ _) | refine (?_ : WL _ _ _ _ _ _) | skip)
        try dsimp only [St.put, Nat.reduceAdd]
        refine (?_ : Tr _ _ _)
        exact (Tr.ren (fun q => q) (by repeat (first | exact trivial | refine ⟨⟨?_, ?_⟩, ?_⟩ | rfl)) (by repeat (first | exact trivial | refine ⟨⟨?_, ?_, ?_⟩, ?_⟩ | rfl | exact congrArg (fun q => some (AO.row _ _ q)) (by first | rfl | (simp; done) | (simp [eInt]; done) | (simp [eLk]; done)))) rfl)
    · have hp : ¬ s = 4 := of_decide_eq_false hp
      obtain rfl : l1 = [] := by
        rw [← e1]; exact if_neg fun x => hp x.1
      repeat (first | refine W.go rfl ?_ | refine WL.ev rfl ?_ | refine WL.gyes rfl rfl rfl rfl ?_ | refine WL.opno rfl rfl rfl rfl rfl rfl rfl ?_ | refine WL.ar rfl rfl (by unfold I64; omega) ?_ | refine WL.len rfl rfl (by first | exact List.length_map _ | exact List.length_replicate | rfl) ?_ | refine WL.idx rfl rfl (by omega) (by first | exact map_at (by omega) | exact map_atZ (by omega) (by omega)) ?_ | refine WL.app rfl rfl rfl (by first | omega | (simp; done) | (simp; omega)) ?_ | refine W.condF rfl ?_)
      (first | refine (?_ : W _ _ _ _ _) | refine (?_ : WL _ _ _ _ _ _) | skip)
      try dsimp only [St.put, Nat.reduceAdd]
      refine (?_ : Tr _ _ _)
      exact (Tr.ren (fun q => q) (by repeat (first | exact trivial | refine ⟨⟨?_, ?_⟩, ?_⟩ | rfl)) (by repeat (first | exact trivial | refine ⟨⟨?_, ?_, ?_⟩, ?_⟩ | rfl | exact congrArg (fun q => some (AO.row _ _ q)) (by first | rfl | (simp; done) | (simp [eInt]; done) | (simp [eLk]; done)))) rfl)
  · repeat (first | refine W.go rfl ?_ | refine WL.ev rfl ?_ | refine WL.gyes rfl rfl rfl rfl ?_ | refine WL.opno rfl rfl rfl rfl rfl rfl rfl ?_ | refine WL.ar rfl rfl (by unfold I64; omega) ?_ | refine WL.len rfl rfl (by first | exact List.length_map _ | exact List.length_replicate | rfl) ?_ | refine WL.idx rfl rfl (by omega) (by first | exact map_at (by omega) | exact map_atZ (by omega) (by omega)) ?_ | refine WL.app rfl rfl rfl (by first | omega | (simp; done) | (simp; omega)) ?_ | refine W.condF rfl ?_)
    (first | refine (?_ : W _ _ _ _ _) | refine (?_ : WL _ _ _ _ _ _) | skip)
    try dsimp only [St.put, Nat.reduceAdd]
    refine WL.meet2 ⟨[(0, .sc (.int .u8 s)), (2, .sc (.int .i64 i)), (4, .pt 0 0 0), (7, .sl 2), (8, .pt 1 0 0)], [(0, .box 29 (ePce p).cells), (1, .box 78 (eEv p.evs[i])), (2, .row 262 3 (l1.map eLk ++ l2.map eLk))], 3⟩ ?_ ?_
    · refine WL.partG rfl rfl rfl rfl (fun hp => ?_) (fun hp => ?_)
      · have hp : s = 4 := of_decide_eq_true hp
        repeat (first | refine W.go rfl ?_ | refine WL.ev rfl ?_ | refine WL.gyes rfl rfl rfl rfl ?_ | refine WL.opno rfl rfl rfl rfl rfl rfl rfl ?_ | refine WL.ar rfl rfl (by unfold I64; omega) ?_ | refine WL.len rfl rfl (by first | exact List.length_map _ | exact List.length_replicate | rfl) ?_ | refine WL.idx rfl rfl (by omega) (by first | exact map_at (by omega) | exact map_atZ (by omega) (by omega)) ?_ | refine WL.app rfl rfl rfl (by first | omega | (simp; done) | (simp; omega)) ?_ | refine W.condF rfl ?_)
        (first | refine (?_ : W _ _ _ _ _) | refine (?_ : WL _ _ _ _ _ _) | skip)
        try dsimp only [St.put, Nat.reduceAdd]
        (refine W.cond rfl (fun hif => ?_) (fun hif => ?_) <;> (try simp only [decide_eq_true_eq, decide_eq_false_iff_not, Int.not_lt, Int.not_le, Bool.not_eq_true', Bool.not_eq_false'] at hif))
        · obtain rfl : l2 = [((i : Int), 0, 6)] := by
            rw [← e2]; exact if_pos ⟨hp, by simpa using hif⟩
          repeat (first | refine W.go rfl ?_ | refine WL.ev rfl ?_ | refine WL.gyes rfl rfl rfl rfl ?_ | refine WL.opno rfl rfl rfl rfl rfl rfl rfl ?_ | refine WL.ar rfl rfl (by unfold I64; omega) ?_ | refine WL.len rfl rfl (by first | exact List.length_map _ | exact List.length_replicate | rfl) ?_ | refine WL.idx rfl rfl (by omega) (by first | exact map_at (by omega) | exact map_atZ (by omega) (by omega)) ?_ | refine WL.app rfl rfl rfl (by first | omega | (simp; done) | (simp; omega)) ?_ | refine W.condF rfl ?_)
          (first | refine (?_ : W _ _ _ _ _) | refine (?_ : WL _ _ _ _ _ _) | skip)
          try dsimp only [St.put, Nat.reduceAdd]
          refine (?_ : Tr _ _ _)
          exact (Tr.ren (fun q => bif Nat.beq q 2 then 4 else q) (by repeat (first | exact trivial | refine ⟨⟨?_, ?_⟩, ?_⟩ | rfl)) (by repeat (first | exact trivial | refine ⟨⟨?_, ?_, ?_⟩, ?_⟩ | rfl | exact congrArg (fun q => some (AO.row _ _ q)) (by first | rfl | (simp; done) | (simp [eInt]; done) | (simp [eLk]; done)))) rfl)
        · obtain rfl : l2 = [] := by
            rw [← e2]; exact if_neg fun x => absurd x.2 (by simpa using hif)
          repeat (first | refine W.go rfl ?_ | refine WL.ev rfl ?_ | refine WL.gyes rfl rfl rfl rfl ?_ | refine WL.opno rfl rfl rfl rfl rfl rfl rfl ?_ | refine WL.ar rfl rfl (by unfold I64; omega) ?_ | refine WL.len rfl rfl (by first | exact List.length_map _ | exact List.length_replicate | rfl) ?_ | refine WL.idx rfl rfl (by omega) (by first | exact map_at (by omega) | exact map_atZ (by omega) (by omega)) ?_ | refine WL.app rfl rfl rfl (by first | omega | (simp; done) | (simp; omega)) ?_ | refine W.condF rfl ?_)
          (first | refine (?_ : W _ _ _ _ _) | refine (?_ : WL _ _ _ _ _ _) | skip)
          try dsimp only [St.put, Nat.reduceAdd]
          refine (?_ : Tr _ _ _)
          exact (Tr.ren (fun q => q) (by repeat (first | exact trivial | refine ⟨⟨?_, ?_⟩, ?_⟩ | rfl)) (by repeat (first | exact trivial | refine ⟨⟨?_, ?_, ?_⟩, ?_⟩ | rfl | exact congrArg (fun q => some (AO.row _ _ q)) (by first | rfl | (simp; done) | (simp [eInt]; done) | (simp [eLk]; done)))) rfl)
      · have hp : ¬ s = 4 := of_decide_eq_false hp
        obtain rfl : l2 = [] := by
          rw [← e2]; exact if_neg fun x => hp x.1
        repeat (first | refine W.go rfl ?_ | refine WL.ev rfl ?_ | refine WL.gyes rfl rfl rfl rfl ?_ | refine WL.opno rfl rfl rfl rfl rfl rfl rfl ?_ | refine WL.ar rfl rfl (by unfold I64; omega) ?_ | refine WL.len rfl rfl (by first | exact List.length_map _ | exact List.length_replicate | rfl) ?_ | refine WL.idx rfl rfl (by omega) (by first | exact map_at (by omega) | exact map_atZ (by omega) (by omega)) ?_ | refine WL.app rfl rfl rfl (by first | omega | (simp; done) | (simp; omega)) ?_ | refine W.condF rfl ?_)
        (first | refine (?_ : W _ _ _ _ _) | refine (?_ : WL _ _ _ _ _ _) | skip)
        try dsimp only [St.put, Nat.reduceAdd]
        refine (?_ : Tr _ _ _)
        exact (Tr.ren (fun q => q) (by repeat (first | exact trivial | refine ⟨⟨?_, ?_⟩, ?_⟩ | rfl)) (by repeat (first | exact trivial | refine ⟨⟨?_, ?_, ?_⟩, ?_⟩ | rfl | exact congrArg (fun q => some (AO.row _ _ q)) (by first | rfl | (simp; done) | (simp [eInt]; done) | (simp [eLk]; done)))) rfl)
    · repeat (first | refine W.go rfl ?_ | refine WL.ev rfl ?_ | refine WL.gyes rfl rfl rfl rfl ?_ | refine WL.opno rfl rfl rfl rfl rfl rfl rfl ?_ | refine WL.ar rfl rfl (by unfold I64; omega) ?_ | refine WL.len rfl rfl (by first | exact List.length_map _ | exact List.length_replicate | rfl) ?_ | refine WL.idx rfl rfl (by omega) (by first | exact map_at (by omega) | exact map_atZ (by omega) (by omega)) ?_ | refine WL.app rfl rfl rfl (by first | omega | (simp; done) | (simp; omega)) ?_ | refine W.condF rfl ?_)
      (first | refine (?_ : W _ _ _ _ _) | refine (?_ : WL _ _ _ _ _ _) | skip)
      try dsimp only [St.put, Nat.reduceAdd]
      refine WL.meet2 ⟨[(0, .sc (.int .u8 s)), (2, .sc (.int .i64 i)), (4, .pt 0 0 0), (7, .sl 2), (8, .pt 1 0 0)], [(0, .box 29 (ePce p).cells), (1, .box 78 (eEv p.evs[i])), (2, .row 262 3 (l1.map eLk ++ l2.map eLk ++ l3.map eLk))], 3⟩ ?_ ?_
      · refine WL.partG rfl rfl rfl rfl (fun hp => ?_) (fun hp => ?_)
        · have hp : s = 4 := of_decide_eq_true hp
          repeat (first | refine W.go rfl ?_ | refine WL.ev rfl ?_ | refine WL.gyes rfl rfl rfl rfl ?_ | refine WL.opno rfl rfl rfl rfl rfl rfl rfl ?_ | refine WL.ar rfl rfl (by unfold I64; omega) ?_ | refine WL.len rfl rfl (by first | exact List.length_map _ | exact List.length_replicate | rfl) ?_ | refine WL.idx rfl rfl (by omega) (by first | exact map_at (by omega) | exact map_atZ (by omega) (by omega)) ?_ | refine WL.app rfl rfl rfl (by first | omega | (simp; done) | (simp; omega)) ?_ | refine W.condF rfl ?_)
          (first | refine (?_ : W _ _ _ _ _) | refine (?_ : WL _ _ _ _ _ _) | skip)
          try dsimp only [St.put, Nat.reduceAdd]
          (refine W.cond rfl (fun hif => ?_) (fun hif => ?_) <;> (try simp only [decide_eq_true_eq, decide_eq_false_iff_not, Int.not_lt, Int.not_le, Bool.not_eq_true', Bool.not_eq_false'] at hif))
          · obtain rfl : l3 = [((i : Int), 0, 7)] := by
              rw [← e3]; exact if_pos ⟨hp, by simpa using hif⟩
            repeat (first | refine W.go rfl ?_ | refine WL.ev rfl ?_ | refine WL.gyes rfl rfl rfl rfl ?_ | refine WL.opno rfl rfl rfl rfl rfl rfl rfl ?_ | refine WL.ar rfl rfl (by unfold I64; omega) ?_ | refine WL.len rfl rfl (by first | exact List.length_map _ | exact List.length_replicate | rfl) ?_ | refine WL.idx rfl rfl (by omega) (by first | exact map_at (by omega) | exact map_atZ (by omega) (by omega)) ?_ | refine WL.app rfl rfl rfl (by first | omega | (simp; done) | (simp; omega)) ?_ | refine W.condF rfl ?_)
            (first | refine (?_ : W _ _ _ _ _) | refine (?_ : WL _ _ _ _ _ _) | skip)
            try dsimp only [St.put, Nat.reduceAdd]
            refine (?_ : Tr _ _ _)
            exact (Tr.ren (fun q => bif Nat.beq q 2 then 4 else q) (by repeat (first | exact trivial | refine ⟨⟨?_, ?_⟩, ?_⟩ | rfl)) (by repeat (first | exact trivial | refine ⟨⟨?_, ?_, ?_⟩, ?_⟩ | rfl | exact congrArg (fun q => some (AO.row _ _ q)) (by first | rfl | (simp; done) | (simp [eInt]; done) | (simp [eLk]; done)))) rfl)
          · obtain rfl : l3 = [] := by
              rw [← e3]; exact if_neg fun x => absurd x.2 (by simpa using hif)
            repeat (first | refine W.go rfl ?_ | refine WL.ev rfl ?_ | refine WL.gyes rfl rfl rfl rfl ?_ | refine WL.opno rfl rfl rfl rfl rfl rfl rfl ?_ | refine WL.ar rfl rfl (by unfold I64; omega) ?_ | refine WL.len rfl rfl (by first | exact List.length_map _ | exact List.length_replicate | rfl) ?_ | refine WL.idx rfl rfl (by omega) (by first | exact map_at (by omega) | exact map_atZ (by omega) (by omega)) ?_ | refine WL.app rfl rfl rfl (by first | omega | (simp; done) | (simp; omega)) ?_ | refine W.condF rfl ?_)
            (first | refine (?_ : W _ _ _ _ _) | refine (?_ : WL _ _ _ _ _ _) | skip)
            try dsimp only [St.put, Nat.reduceAdd]
            refine (?_ : Tr _ _ _)
            exact (Tr.ren (fun q => q) (by repeat (first | exact trivial | refine ⟨⟨?_, ?_⟩, ?_⟩ | rfl)) (by repeat (first | exact trivial | refine ⟨⟨?_, ?_, ?_⟩, ?_⟩ | rfl | exact congrArg (fun q => some (AO.row _ _ q)) (by first | rfl | (simp; done) | (simp [eInt]; done) | (simp [eLk]; done)))) rfl)
        · have hp : ¬ s = 4 := of_decide_eq_false hp
          obtain rfl : l3 = [] := by
            rw [← e3]; exact if_neg fun x => hp x.1
          repeat (first | refine W.go rfl ?_ | refine WL.ev rfl ?_ | refine WL.gyes rfl rfl rfl rfl ?_ | refine WL.opno rfl rfl rfl rfl rfl rfl rfl ?_ | refine WL.ar rfl rfl (by unfold I64; omega) ?_ | refine WL.len rfl rfl (by first | exact List.length_map _ | exact List.length_replicate | rfl) ?_ | refine WL.idx rfl rfl (by omega) (by first | exact map_at (by omega) | exact map_atZ (by omega) (by omega)) ?_ | refine WL.app rfl rfl rfl (by first | omega | (simp; done) | (simp; omega)) ?_ | refine W.condF rfl ?_)
          (first | refine (?_ : W _ _ _ _ _) | refine (?_ : WL _ _ _ _ _ _) | skip)
          try dsimp only [St.put, Nat.reduceAdd]
          refine (?_ : Tr _ _ _)
          exact (Tr.ren (fun q => q) (by repeat (first | exact trivial | refine ⟨⟨?_, ?_⟩, ?_⟩ | rfl)) (by repeat (first | exact trivial | refine ⟨⟨?_, ?_, ?_⟩, ?_⟩ | rfl | exact congrArg (fun q => some (AO.row _ _ q)) (by first | rfl | (simp; done) | (simp [eInt]; done) | (simp [eLk]; done)))) rfl)
      · repeat (first | refine W.go rfl ?_ | refine WL.ev rfl ?_ | refine WL.gyes rfl rfl rfl rfl ?_ | refine WL.opno rfl rfl rfl rfl rfl rfl rfl ?_ | refine WL.ar rfl rfl (by unfold I64; omega) ?_ | refine WL.len rfl rfl (by first | exact List.length_map _ | exact List.length_replicate | rfl) ?_ | refine WL.idx rfl rfl (by omega) (by first | exact map_at (by omega) | exact map_atZ (by omega) (by omega)) ?_ | refine WL.app rfl rfl rfl (by first | omega | (simp; done) | (simp; omega)) ?_ | refine W.condF rfl ?_)
        (first | refine (?_ : W _ _ _ _ _) | refine (?_ : WL _ _ _ _ _ _) | skip)
        try dsimp only [St.put, Nat.reduceAdd]
        refine WL.meet2 ⟨[(0, .sc (.int .u8 s)), (2, .sc (.int .i64 i)), (4, .pt 0 0 0), (7, .sl 2), (8, .pt 1 0 0)], [(0, .box 29 (ePce p).cells), (1, .box 78 (eEv p.evs[i])), (2, .row 262 3 (l1.map eLk ++ l2.map eLk ++ l3.map eLk ++ l4.map eLk))], 3⟩ ?_ ?_
        · refine WL.partG rfl rfl rfl rfl (fun hp => ?_) (fun hp => ?_)
          · have hp : s = 3 := of_decide_eq_true hp
            repeat (first | refine W.go rfl ?_ | refine WL.ev rfl ?_ | refine WL.gyes rfl rfl rfl rfl ?_ | refine WL.opno rfl rfl rfl rfl rfl rfl rfl ?_ | refine WL.ar rfl rfl (by unfold I64; omega) ?_ | refine WL.len rfl rfl (by first | exact List.length_map _ | exact List.length_replicate | rfl) ?_ | refine WL.idx rfl rfl (by omega) (by first | exact map_at (by omega) | exact map_atZ (by omega) (by omega)) ?_ | refine WL.app rfl rfl rfl (by first | omega | (simp; done) | (simp; omega)) ?_ | refine W.condF rfl ?_)
            (first | refine (?_ : W _ _ _ _ _) | refine (?_ : WL _ _ _ _ _ _) | skip)
            try dsimp only [St.put, Nat.reduceAdd]
            refine WL.vl rfl (WV.call rfl (callF Tryz.func130 rfl rfl) rfl rfl (rest_FS _)) ?_
            repeat (first | refine W.go rfl ?_ | refine WL.ev rfl ?_ | refine WL.gyes rfl rfl rfl rfl ?_ | refine WL.opno rfl rfl rfl rfl rfl rfl rfl ?_ | refine WL.ar rfl rfl (by unfold I64; omega) ?_ | refine WL.len rfl rfl (by first | exact List.length_map _ | exact List.length_replicate | rfl) ?_ | refine WL.idx rfl rfl (by omega) (by first | exact map_at (by omega) | exact map_atZ (by omega) (by omega)) ?_ | refine WL.app rfl rfl rfl (by first | omega | (simp; done) | (simp; omega)) ?_ | refine W.condF rfl ?_)
            (first | refine (?_ : W _ _ _ _ _) | refine (?_ : WL _ _ _ _ _ _) | skip)
            try dsimp only [St.put, Nat.reduceAdd]
            (refine W.cond rfl (fun hif => ?_) (fun hif => ?_) <;> (try simp only [decide_eq_true_eq, decide_eq_false_iff_not, Int.not_lt, Int.not_le, Bool.not_eq_true', Bool.not_eq_false'] at hif))
            · obtain rfl : l4 = [((i : Int), 0, 8)] := by
                rw [← e4]; exact if_pos ⟨hp, by simpa using hif⟩
              repeat (first | refine W.go rfl ?_ | refine WL.ev rfl ?_ | refine WL.gyes rfl rfl rfl rfl ?_ | refine WL.opno rfl rfl rfl rfl rfl rfl rfl ?_ | refine WL.ar rfl rfl (by unfold I64; omega) ?_ | refine WL.len rfl rfl (by first | exact List.length_map _ | exact List.length_replicate | rfl) ?_ | refine WL.idx rfl rfl (by omega) (by first | exact map_at (by omega) | exact map_atZ (by omega) (by omega)) ?_ | refine WL.app rfl rfl rfl (by first | omega | (simp; done) | (simp; omega)) ?_ | refine W.condF rfl ?_)
              (first | refine (?_ : W _ _ _ _ _) | refine (?_ : WL _ _ _ _ _ _) | skip)
              try dsimp only [St.put, Nat.reduceAdd]
              refine (?_ : Tr _ _ _)
              exact (Tr.ren (fun q => bif Nat.beq q 2 then 4 else q) (by repeat (first | exact trivial | refine ⟨⟨?_, ?_⟩, ?_⟩ | rfl)) (by repeat (first | exact trivial | refine ⟨⟨?_, ?_, ?_⟩, ?_⟩ | rfl | exact congrArg (fun q => some (AO.row _ _ q)) (by first | rfl | (simp; done) | (simp [eInt]; done) | (simp [eLk]; done)))) rfl)
            · obtain rfl : l4 = [] := by
                rw [← e4]; exact if_neg fun x => absurd x.2 (by simpa using hif)
              repeat (first | refine W.go rfl ?_ | refine WL.ev rfl ?_ | refine WL.gyes rfl rfl rfl rfl ?_ | refine WL.opno rfl rfl rfl rfl rfl rfl rfl ?_ | refine WL.ar rfl rfl (by unfold I64; omega) ?_ | refine WL.len rfl rfl (by first | exact List.length_map _ | exact List.length_replicate | rfl) ?_ | refine WL.idx rfl rfl (by omega) (by first | exact map_at (by omega) | exact map_atZ (by omega) (by omega)) ?_ | refine WL.app rfl rfl rfl (by first | omega | (simp; done) | (simp; omega)) ?_ | refine W.condF rfl ?_)
              (first | refine (?_ : W _ _ _ _ _) | refine (?_ : WL _ _ _ _ _ _) | skip)
              try dsimp only [St.put, Nat.reduceAdd]
              refine (?_ : Tr _ _ _)
              exact (Tr.ren (fun q => q) (by repeat (first | exact trivial | refine ⟨⟨?_, ?_⟩, ?_⟩ | rfl)) (by repeat (first | exact trivial | refine ⟨⟨?_, ?_, ?_⟩, ?_⟩ | rfl | exact congrArg (fun q => some (AO.row _ _ q)) (by first | rfl | (simp; done) | (simp [eInt]; done) | (simp [eLk]; done)))) rfl)
          · have hp : ¬ s = 3 := of_decide_eq_false hp
            obtain rfl : l4 = [] := by
              rw [← e4]; exact if_neg fun x => hp x.1
            repeat (first | refine W.go rfl ?_ | refine WL.ev rfl ?_ | refine WL.gyes rfl rfl rfl rfl ?_ | refine WL.opno rfl rfl rfl rfl rfl rfl rfl ?_ | refine WL.ar rfl rfl (by unfold I64; omega) ?_ | refine WL.len rfl rfl (by first | exact List.length_map _ | exact List.length_replicate | rfl) ?_ | refine WL.idx rfl rfl (by omega) (by first | exact map_at (by omega) | exact map_atZ (by omega) (by omega)) ?_ | refine WL.app rfl rfl rfl (by first | omega | (simp; done) | (simp; omega)) ?_ | refine W.condF rfl ?_)
            (first | refine (?_ : W _ _ _ _ _) | refine (?_ : WL _ _ _ _ _ _) | skip)
            try dsimp only [St.put, Nat.reduceAdd]
            refine (?_ : Tr _ _ _)
            exact (Tr.ren (fun q => q) (by repeat (first | exact trivial | refine ⟨⟨?_, ?_⟩, ?_⟩ | rfl)) (by repeat (first | exact trivial | refine ⟨⟨?_, ?_, ?_⟩, ?_⟩ | rfl | exact congrArg (fun q => some (AO.row _ _ q)) (by first | rfl | (simp; done) | (simp [eInt]; done) | (simp [eLk]; done)))) rfl)
        · repeat (first | refine W.go rfl ?_ | refine WL.ev rfl ?_ | refine WL.gyes rfl rfl rfl rfl ?_ | refine WL.opno rfl rfl rfl rfl rfl rfl rfl ?_ | refine WL.ar rfl rfl (by unfold I64; omega) ?_ | refine WL.len rfl rfl (by first | exact List.length_map _ | exact List.length_replicate | rfl) ?_ | refine WL.idx rfl rfl (by omega) (by first | exact map_at (by omega) | exact map_atZ (by omega) (by omega)) ?_ | refine WL.app rfl rfl rfl (by first | omega | (simp; done) | (simp; omega)) ?_ | refine W.condF rfl ?_)
          (first | refine (?_ : W _ _ _ _ _) | refine (?_ : WL _ _ _ _ _ _) | skip)
          try dsimp only [St.put, Nat.reduceAdd]
          have hrow0 : l1.map eLk ++ l2.map eLk ++ l3.map eLk ++ l4.map eLk = (X 0).map eLk := by rw [hX0, ← hH]; simp
          refine W.loop (fun k : Nat => k ≤ p.evs[i].stops.length) (fun k => ⟨[(0, .sc (.int .u8 s)), (2, .sc (.int .i64 i)), (4, .pt 0 0 0), (7, .sl 2), (8, .pt 1 0 0), (9, .sc (.int .i64 k))], [(0, .box 29 (ePce p).cells), (1, .box 78 (eEv p.evs[i])), (2, .row 262 3 ((X k).map eLk))], 3⟩) (fun k => p.evs[i].stops.length - k) 0 (by omega) (Tr.ren id (by repeat (first | exact trivial | refine ⟨⟨?_, ?_⟩, ?_⟩ | rfl)) (by repeat (first | exact trivial | refine ⟨⟨?_, ?_, ?_⟩, ?_⟩ | rfl | exact congrArg (fun r => some (AO.row _ _ r)) hrow0)) rfl) fun k hk => ?_
          repeat (first | refine W.go rfl ?_ | refine WL.ev rfl ?_ | refine WL.gyes rfl rfl rfl rfl ?_ | refine WL.opno rfl rfl rfl rfl rfl rfl rfl ?_ | refine WL.ar rfl rfl (by unfold I64; omega) ?_ | refine WL.len rfl rfl (by first | exact List.length_map _ | exact List.length_replicate | rfl) ?_ | refine WL.idx rfl rfl (by omega) (by first | exact map_at (by omega) | exact map_atZ (by omega) (by omega)) ?_ | refine WL.app rfl rfl rfl (by first | omega | (simp; done) | (simp; omega)) ?_ | refine W.condF rfl ?_)
          (first | refine (?_ : W _ _ _ _ _) | refine (?_ : WL _ _ _ _ _ _) | skip)
          try dsimp only [St.put, Nat.reduceAdd]
          (refine W.cond rfl (fun hif => ?_) (fun hif => ?_) <;> (try simp only [decide_eq_true_eq, decide_eq_false_iff_not, Int.not_lt, Int.not_le, Bool.not_eq_true', Bool.not_eq_false'] at hif))
          · have hk2 : k < p.evs[i].stops.length := by omega
            have hb := hv k hk2
            have hsx := hXs k hk2
            have hlx := hXl k (by omega)
            obtain ⟨Xk, hXk⟩ : ∃ l, X k = l := ⟨_, rfl⟩
            rw [hXk] at hsx hlx
            rw [hXk]
            have hwe := wants_eq (i := i) (r := p.evs[i].stops[k].2.2.1) (g := p.evs[i].stops[k].2.2.2.1) (h := p.evs[i].stops[k].2.2.2.2) (L := fun c => longestN p.evs i c) hs hb.1 hb.2.1
            have hwf := wants_FS s p.evs[i].stops[k].1 p.evs[i].stops[k].2.1 p.evs[i].stops[k].2.2.1 p.evs[i].stops[k].2.2.2.1 p.evs[i].stops[k].2.2.2.2 (longestN p.evs i p.evs[i].stops[k].1) hs hb.1 hb.2.1 hb.2.2.1 hb.2.2.2.1 (by have := hb.2.2.2.2; omega)
            have hwl := wants_len s p.evs[i].stops[k].1 p.evs[i].stops[k].2.1 p.evs[i].stops[k].2.2.1 p.evs[i].stops[k].2.2.2.1 p.evs[i].stops[k].2.2.2.2 (longestN p.evs i p.evs[i].stops[k].1)
            obtain ⟨wl, hw⟩ : ∃ l, wants s p.evs[i].stops[k].1 p.evs[i].stops[k].2.1 p.evs[i].stops[k].2.2.1 p.evs[i].stops[k].2.2.2.1 p.evs[i].stops[k].2.2.2.2 (longestN p.evs i p.evs[i].stops[k].1) = l := ⟨_, rfl⟩
            rw [hw] at hwe hwf hwl
            repeat (first | refine W.go rfl ?_ | refine WL.ev rfl ?_ | refine WL.gyes rfl rfl rfl rfl ?_ | refine WL.opno rfl rfl rfl rfl rfl rfl rfl ?_ | refine WL.ar rfl rfl (by unfold I64; omega) ?_ | refine WL.len rfl rfl (by first | exact List.length_map _ | exact List.length_replicate | rfl) ?_ | refine WL.idx rfl rfl (by omega) (by first | exact map_at (by omega) | exact map_atZ (by omega) (by omega)) ?_ | refine WL.app rfl rfl rfl (by first | omega | (simp; done) | (simp; omega)) ?_ | refine W.condF rfl ?_)
            (first | refine (?_ : W _ _ _ _ _) | refine (?_ : WL _ _ _ _ _ _) | skip)
            try dsimp only [St.put, Nat.reduceAdd]
            refine W.drawK (by kernel_rfl) (by kernel_rfl) ?_
            repeat (first | refine DK.st rfl ?_ | refine DK.idx rfl rfl (by omega) (by first | exact map_at (by omega) | exact map_atZ (by omega) (by omega)) ?_ | refine DK.nil ?_)
            refine DK.vl rfl (WV.call rfl (callF Tryz.func154 rfl rfl) rfl rfl (rLong_FS p hO i _)) ?_
            refine DK.vl rfl (WV.call rfl (callF Tryz.func177 rfl rfl) rfl rfl hwf) ?_
            repeat (first | refine DK.st rfl ?_ | refine DK.idx rfl rfl (by omega) (by first | exact map_at (by omega) | exact map_atZ (by omega) (by omega)) ?_ | refine DK.nil ?_)
            repeat (first | refine W.go rfl ?_ | refine WL.ev rfl ?_ | refine WL.gyes rfl rfl rfl rfl ?_ | refine WL.opno rfl rfl rfl rfl rfl rfl rfl ?_ | refine WL.ar rfl rfl (by unfold I64; omega) ?_ | refine WL.len rfl rfl (by first | exact List.length_map _ | exact List.length_replicate | rfl) ?_ | refine WL.idx rfl rfl (by omega) (by first | exact map_at (by omega) | exact map_atZ (by omega) (by omega)) ?_ | refine WL.app rfl rfl rfl (by first | omega | (simp; done) | (simp; omega)) ?_ | refine W.condF rfl ?_)
            (first | refine (?_ : W _ _ _ _ _) | refine (?_ : WL _ _ _ _ _ _) | skip)
            try dsimp only [St.put, Nat.reduceAdd]
            refine W.loop (fun j : Nat => j ≤ wl.length) (fun j => ⟨[(0, .sc (.int .u8 s)), (2, .sc (.int .i64 i)), (4, .pt 0 0 0), (7, .sl 2), (8, .pt 1 0 0), (9, .sc (.int .i64 k)), (10, .ls 1 (wl.map eInt)), (11, .sc (.int .i64 j))], [(0, .box 29 (ePce p).cells), (1, .box 78 (eEv p.evs[i])), (2, .row 262 3 ((Xk ++ (wl.take j).map fun y => ((i : Int), p.evs[i].stops[k].1, y)).map eLk))], 3⟩) (fun j => wl.length - j) 0 (by omega) (Tr.ren id (by repeat (first | exact trivial | refine ⟨⟨?_, ?_⟩, ?_⟩ | rfl)) (by repeat (first | exact trivial | refine ⟨⟨?_, ?_, ?_⟩, ?_⟩ | rfl | exact congrArg (fun r => some (AO.row _ _ r)) (by simp))) rfl) fun j hj => ?_
            repeat (first | refine W.go rfl ?_ | refine WL.ev rfl ?_ | refine WL.gyes rfl rfl rfl rfl ?_ | refine WL.opno rfl rfl rfl rfl rfl rfl rfl ?_ | refine WL.ar rfl rfl (by unfold I64; omega) ?_ | refine WL.len rfl rfl (by first | exact List.length_map _ | exact List.length_replicate | rfl) ?_ | refine WL.idx rfl rfl (by omega) (by first | exact map_at (by omega) | exact map_atZ (by omega) (by omega)) ?_ | refine WL.app rfl rfl rfl (by first | omega | (simp; done) | (simp; omega)) ?_ | refine W.condF rfl ?_)
            (first | refine (?_ : W _ _ _ _ _) | refine (?_ : WL _ _ _ _ _ _) | skip)
            try dsimp only [St.put, Nat.reduceAdd]
            (refine W.cond rfl (fun hif => ?_) (fun hif => ?_) <;> (try simp only [decide_eq_true_eq, decide_eq_false_iff_not, Int.not_lt, Int.not_le, Bool.not_eq_true', Bool.not_eq_false'] at hif))
            · have hj2 : j < wl.length := by omega
              have hrw : (Xk ++ (wl.take j).map fun y => ((i : Int), p.evs[i].stops[k].1, y)).map eLk ++ [eLk ((i : Int), p.evs[i].stops[k].1, wl[j])] = (Xk ++ (wl.take (j + 1)).map fun y => ((i : Int), p.evs[i].stops[k].1, y)).map eLk := by
                rw [List.take_succ_eq_append_getElem hj2]; simp only [List.map_append, List.append_assoc, List.map_cons, List.map_nil]
              repeat (first | refine W.go rfl ?_ | refine WL.ev rfl ?_ | refine WL.gyes rfl rfl rfl rfl ?_ | refine WL.opno rfl rfl rfl rfl rfl rfl rfl ?_ | refine WL.ar rfl rfl (by unfold I64; omega) ?_ | refine WL.len rfl rfl (by first | exact List.length_map _ | exact List.length_replicate | rfl) ?_ | refine WL.idx rfl rfl (by omega) (by first | exact map_at (by omega) | exact map_atZ (by omega) (by omega)) ?_ | refine WL.app rfl rfl rfl (by first | omega | (simp; done) | (simp; omega)) ?_ | refine W.condF rfl ?_)
              (first | refine (?_ : W _ _ _ _ _) | refine (?_ : WL _ _ _ _ _ _) | skip)
              try dsimp only [St.put, Nat.reduceAdd]
              refine W.dm [0, 1] (by kernel_rfl) (by kernel_rfl) (by kernel_rfl) (by repeat constructor) ?_
              repeat (first | refine DMK.st rfl rfl ?_ | refine DMK.idx rfl rfl (by omega) (by first | exact map_at (by omega) | exact map_atZ (by omega) (by omega)) ?_ | refine DMK.s1 rfl (by kernel_rfl) rfl ?_ | refine DMK.bd rfl rfl rfl (by repeat constructor) ?_ | refine DMK.ap rfl rfl (by first | omega | (simp; done) | (simp; omega)) (by repeat constructor) ?_ | refine DMK.nil ?_)
              repeat (first | refine W.go rfl ?_ | refine WL.ev rfl ?_ | refine WL.gyes rfl rfl rfl rfl ?_ | refine WL.opno rfl rfl rfl rfl rfl rfl rfl ?_ | refine WL.ar rfl rfl (by unfold I64; omega) ?_ | refine WL.len rfl rfl (by first | exact List.length_map _ | exact List.length_replicate | rfl) ?_ | refine WL.idx rfl rfl (by omega) (by first | exact map_at (by omega) | exact map_atZ (by omega) (by omega)) ?_ | refine WL.app rfl rfl rfl (by first | omega | (simp; done) | (simp; omega)) ?_ | refine W.condF rfl ?_)
              (first | refine (?_ : W _ _ _ _ _) | refine (?_ : WL _ _ _ _ _ _) | skip)
              try dsimp only [St.put, Nat.reduceAdd]
              exact ⟨j + 1, by omega, by omega, Tr.ren (fun q => bif Nat.beq q 2 then 4 else q) (by repeat (first | exact trivial | refine ⟨⟨?_, ?_⟩, ?_⟩ | rfl)) (by repeat (first | exact trivial | refine ⟨⟨?_, ?_, ?_⟩, ?_⟩ | exact congrArg (fun r => some (AO.row _ _ r)) hrw | rfl)) rfl⟩
            · have hje : j = wl.length := by omega
              subst hje
              have hrw : (Xk ++ (wl.take wl.length).map fun y => ((i : Int), p.evs[i].stops[k].1, y)).map eLk = (X (k + 1)).map eLk := by rw [List.take_length, hwe, hsx]
              repeat (first | refine W.go rfl ?_ | refine WL.ev rfl ?_ | refine WL.gyes rfl rfl rfl rfl ?_ | refine WL.opno rfl rfl rfl rfl rfl rfl rfl ?_ | refine WL.ar rfl rfl (by unfold I64; omega) ?_ | refine WL.len rfl rfl (by first | exact List.length_map _ | exact List.length_replicate | rfl) ?_ | refine WL.idx rfl rfl (by omega) (by first | exact map_at (by omega) | exact map_atZ (by omega) (by omega)) ?_ | refine WL.app rfl rfl rfl (by first | omega | (simp; done) | (simp; omega)) ?_ | refine W.condF rfl ?_)
              (first | refine (?_ : W _ _ _ _ _) | refine (?_ : WL _ _ _ _ _ _) | skip)
              try dsimp only [St.put, Nat.reduceAdd]
              exact ⟨k + 1, by omega, by omega, Tr.ren id (by repeat (first | exact trivial | refine ⟨⟨?_, ?_⟩, ?_⟩ | rfl)) (by repeat (first | exact trivial | refine ⟨⟨?_, ?_, ?_⟩, ?_⟩ | rfl | exact congrArg (fun r => some (AO.row _ _ r)) hrw)) rfl⟩
          have hke : k = p.evs[i].stops.length := by omega
          subst hke
          repeat (first | refine W.go rfl ?_ | refine WL.ev rfl ?_ | refine WL.gyes rfl rfl rfl rfl ?_ | refine WL.opno rfl rfl rfl rfl rfl rfl rfl ?_ | refine WL.ar rfl rfl (by unfold I64; omega) ?_ | refine WL.len rfl rfl (by first | exact List.length_map _ | exact List.length_replicate | rfl) ?_ | refine WL.idx rfl rfl (by omega) (by first | exact map_at (by omega) | exact map_atZ (by omega) (by omega)) ?_ | refine WL.app rfl rfl rfl (by first | omega | (simp; done) | (simp; omega)) ?_ | refine W.condF rfl ?_)
          (first | refine (?_ : W _ _ _ _ _) | refine (?_ : WL _ _ _ _ _ _) | skip)
          try dsimp only [St.put, Nat.reduceAdd]
          refine W.tr (Tr.freeze 2 rfl) ?_
          refine W.ret (fin1 rfl rfl ?_ rfl)
          show AV.ls 3 ((X p.evs[i].stops.length).map eLk) = _
          rw [hXe]
end Go.Proofs.YtkgnmddakiagbaaGreatDoor
