/- Copy of a piece, over trees. -/
import Derived.Test.YteldgllgagjciaaGreatCpI
import Derived.Test.YteldgllgagjciaaGreatRLg
import Derived.Test.YteldgllgagjciaaGreatEQ
import Derived.Test.YteldgllgagjciaaGreatEX

/- Copy of a piece: the law's own reference. -/
namespace Go.Proofs.YteldgllgagjciaaGreat
open Go.RowKit
set_option maxHeartbeats 4000000
set_option maxRecDepth 100000
set_option linter.unusedVariables false
set_option linter.unusedSimpArgs false
theorem infoEvent : (Tryz.prog.info? 46).map (fun i => (i.zero, i.size, i.bytes)) = some (some (.agg #[.bool false, .int .i64 0, .bool false, .bool false, .bool false, .slice none 0 0]), 6, 56) := by kernel_rfl
theorem infoStop : (Tryz.prog.info? 54).map (fun i => (i.zero, i.size, i.bytes)) = some (some (.agg #[.int .i64 0, .int .i64 0, .int .i64 0, .int .i64 0, .int .i64 0]), 5, 40) := by kernel_rfl
theorem stp_len (l : List Stp) : ∀ r ∈ l.map stpCells, r.length = 5 := by intro r h; obtain ⟨x, _, rfl⟩ := List.mem_map.1 h; rfl
theorem stp_one (l : List Stp) : ∀ r ∈ l.map stpCells, ∀ u ∈ r, u.oneCell' = true := by
  intro r h u hu; obtain ⟨x, _, rfl⟩ := List.mem_map.1 h
  simp only [stpCells, List.mem_cons, List.not_mem_nil, or_false] at hu
  rcases hu with rfl | rfl | rfl | rfl | rfl <;> rfl
theorem ev_len6 (e : Ev) (m : Option Addr × Nat) : ∀ r ∈ [evCells e m], r.length = 6 := by
  intro r h
  obtain rfl : r = evCells e m := by simpa using h
  rfl
theorem ev_one (e : Ev) (m : Option Addr × Nat) : ∀ r ∈ [evCells e m], ∀ u ∈ r, u.oneCell' = true := by
  intro r h u hu
  obtain rfl : r = evCells e m := by simpa using h
  simp only [evCells, List.mem_cons, List.not_mem_nil, or_false] at hu
  rcases hu with rfl | rfl | rfl | rfl | rfl | rfl <;> rfl
theorem evz_len (evs : List Ev) (ms : List (Option Addr × Nat)) : ∀ r ∈ List.zipWith evCells evs ms, r.length = 6 := by
  intro r h
  obtain ⟨i, hi, rfl⟩ := List.getElem_of_mem h
  rw [List.getElem_zipWith]; rfl
/-- What the loop keeps: the first k events are copied. -/
def CpInv (B0 : Nat) (evs : List Ev) (k : Nat) (wr : World) (v : Value) : Prop :=
  ∃ ms : List (Option Addr × Nat), ms.length = k ∧ wr.ownsRow B0 46 6 v k (List.zipWith evCells (evs.take k) ms).flatten ∧
    ∀ (i : Nat) (e : Ev) (m : Option Addr × Nat), evs[i]? = some e → ms[i]? = some m → StpsAt wr wr.heap.size m.1 e.stops ∧ ∀ ad, m.1 = some ad → B0 ≤ ad.block ∧ ad.block < wr.heap.size ∧ v.ownBlock ≠ some ad.block
theorem CpInv.start (B0 : Nat) (evs : List Ev) (w : World) : CpInv B0 evs 0 w (.slice none 0 0) :=
  ⟨[], rfl, ⟨by simp, .inl ⟨rfl, rfl⟩⟩, fun i e m _ h => by simp at h⟩
theorem Stay.grown' {b : Nat} {w w' w'' : World} {row : Option Nat} (h : Stay b w w') (hg : w'.grownBy w'' row) (hne : row ≠ some b) : Stay b w w'' :=
  ⟨h.1, Nat.le_trans h.2.1 hg.size, (hg.block b (Nat.lt_of_lt_of_le h.1 h.2.1) (fun e => hne e.symm)).trans h.2.2⟩
/-- The rows of k + 1 events. -/
theorem evz_snoc {evs : List Ev} {ms : List (Option Addr × Nat)} {k : Nat} (hk : k < evs.length) (hm : ms.length = k) (m : Option Addr × Nat) :
    List.zipWith evCells (evs.take (k + 1)) (ms ++ [m]) = List.zipWith evCells (evs.take k) ms ++ [evCells evs[k] m] := by
  rw [List.take_succ_eq_append_getElem hk, List.zipWith_append (by simp; omega)]; rfl
/-- The row of the copied events lies as it did, when the copy of the next event is made. -/
theorem cp_own {B0 : Nat} {wr w2 : World} {v : Value} {k b1 bx : Nat} {xs : List Value} {o1 o2 o3 : Obj} {u : Value} {e : TypeId} (hown : wr.ownsRow B0 e 6 v k xs)
    (hg : ((wr.alloc o1).alloc o2).grownBy w2 (some b1)) (hb1 : wr.heap.size ≤ b1) (hbx : wr.heap.size ≤ bx) : ((w2.setCell ⟨bx, 5, none⟩ u).alloc o3).ownsRow B0 e 6 v k xs :=
  own_keep hown fun g hgv hlt => by
    have s : Stay g wr ((w2.setCell ⟨bx, 5, none⟩ u).alloc o3) := (((((Stay.refl hlt).alloc o1).alloc o2).grown hg (by omega)).setCell (p := ⟨bx, 5, none⟩) (by show g ≠ bx; omega) u).alloc o3
    exact s.2.2
theorem CpInv.step {B0 bq bx b1 k ct d' : Nat} {evs : List Ev} {ms : List (Option Addr × Nat)} {wr w2 w3 : World} {v : Value} {o1 o2 o3 : Obj} {u u' : Value} {T Q' : Option Addr}
    (hms : ms.length = k) (hk : k < evs.length)
    (hown0 : wr.ownsRow B0 46 6 v k (List.zipWith evCells (evs.take k) ms).flatten)
    (hst : ∀ (i : Nat) (e : Ev) (m : Option Addr × Nat), evs[i]? = some e → ms[i]? = some m → StpsAt wr wr.heap.size m.1 e.stops ∧ ∀ ad, m.1 = some ad → B0 ≤ ad.block ∧ ad.block < wr.heap.size ∧ v.ownBlock ≠ some ad.block)
    (hg : ((wr.alloc o1).alloc o2).grownBy w2 (some b1)) (hb1 : wr.heap.size < b1) (hb2 : b1 < ((wr.alloc o1).alloc o2).heap.size) (hT : StpsAt w2 w2.heap.size T evs[k].stops) (hat : ∀ ad, T = some ad → (ad.block = b1 ∨ ad.block = ((wr.alloc o1).alloc o2).heap.size) ∧ ad.block < w2.heap.size)
    (hown : w3.ownsRow B0 46 6 (.slice Q' (k + 1) d') (k + 1) (List.zipWith evCells (evs.take k) ms ++ [evCells evs[k] (T, ct)]).flatten)
    (hg3 : ((w2.setCell ⟨bx, 5, none⟩ u).alloc o3).grownBy w3 v.ownBlock) (hbx : bx = wr.heap.size)
    (hatq : (Value.slice Q' (k + 1) d').ownBlock = v.ownBlock ∨ (Value.slice Q' (k + 1) d').ownBlock = some ((w2.setCell ⟨bx, 5, none⟩ u).alloc o3).heap.size)
    (hB0 : B0 ≤ wr.heap.size) (hbq : bq < B0) : CpInv B0 evs (k + 1) (w3.setCell ⟨bq, 2, none⟩ u') (.slice Q' (k + 1) d') := by
  have hvlt := own_lt hown0
  have hsz2 : ((wr.alloc o1).alloc o2).heap.size ≤ w2.heap.size := hg.size
  have hsz2' : wr.heap.size + 2 ≤ w2.heap.size := by have := hsz2; simp at this; omega
  have hsz3 : w2.heap.size + 1 ≤ w3.heap.size := by have := hg3.size; simpa [World.setCell] using this
  have hszF : (w3.setCell ⟨bq, 2, none⟩ u').heap.size = w3.heap.size := by simp [World.setCell]
  have hnew : (Value.slice Q' (k + 1) d').ownBlock = v.ownBlock ∨ (Value.slice Q' (k + 1) d').ownBlock = some (w2.heap.size + 1) := by simpa [World.setCell] using hatq
  refine ⟨ms ++ [(T, ct)], by simp [hms], ?_, fun i e m he hm => ?_⟩
  · rw [evz_snoc hk hms]
    refine own_keep hown fun g hgv hlt => Below.heap_setCell _ _ _ _ ?_
    have := (own_lt hown g hgv).1
    show g ≠ bq
    omega
  · by_cases hi : i < k
    · rw [List.getElem?_append_left (by omega)] at hm
      obtain ⟨h1, h2⟩ := hst i e m he hm
      refine ⟨Rd.stay h1 fun ad had hlt => ?_, fun ad had => ?_⟩
      · obtain ⟨x1, x2, x3⟩ := h2 ad had
        refine (((((((Stay.refl hlt).alloc o1).alloc o2).grown hg (by omega)).setCell (p := ⟨bx, 5, none⟩) (by show ad.block ≠ bx; omega) u).alloc o3).grown' hg3 x3).setCell (p := ⟨bq, 2, none⟩) (by show ad.block ≠ bq; omega) u'
      · obtain ⟨x1, x2, x3⟩ := h2 ad had
        refine ⟨x1, by rw [hszF]; omega, ?_⟩
        rcases hnew with h | h
        · rw [h]; exact x3
        · rw [h]; intro k; injection k with k; omega
    · have hik : i = k := by
        have := (List.getElem?_eq_some_iff.1 hm).1
        simp at this
        omega
      subst hik
      rw [List.getElem?_append_right (by omega)] at hm
      obtain rfl : (T, ct) = m := by simpa [hms] using hm
      obtain rfl : evs[i] = e := by rw [List.getElem?_eq_getElem hk] at he; injection he
      refine ⟨Rd.stay hT fun ad had hlt => ?_, fun ad had => ?_⟩
      · have hh : wr.heap.size < ad.block := by rcases (hat ad had).1 with h | h; omega; (rw [h]; simp; omega)
        refine ((((Stay.refl hlt).setCell (p := ⟨bx, 5, none⟩) (by show ad.block ≠ bx; omega) u).alloc o3).grown' hg3 ?_).setCell (p := ⟨bq, 2, none⟩) (by show ad.block ≠ bq; omega) u'
        intro hv
        have := hvlt _ hv
        omega
      · have hh : wr.heap.size < ad.block := by rcases (hat ad had).1 with h | h; omega; (rw [h]; simp; omega)
        have hl := (hat ad had).2
        refine ⟨by omega, by rw [hszF]; omega, ?_⟩
        rcases hnew with h | h
        · rw [h]; intro hv; have := hvlt _ hv; omega
        · rw [h]; intro k; injection k with k; omega
theorem CpInv.far {B0 k : Nat} {evs : List Ev} {wr : World} {v : Value} (h : CpInv B0 evs k wr v) {p : Addr} (hp : p.block < B0) (u : Value) : CpInv B0 evs k (wr.setCell p u) v := by
  obtain ⟨ms, h1, h2, h3⟩ := h
  refine ⟨ms, h1, own_keep h2 fun g hg hlt => Below.heap_setCell _ _ _ _ (by have := (own_lt h2 g hg).1; omega), fun i e m he hm => ?_⟩
  obtain ⟨a, b⟩ := h3 i e m he hm
  refine ⟨Rd.stay a fun ad had hlt => (Stay.refl hlt).setCell (by have := (b ad had).1; omega) u, fun ad had => ?_⟩
  obtain ⟨x, y, z⟩ := b ad had
  exact ⟨x, by simpa [World.setCell] using y, z⟩
theorem InsAt.far {w : World} {A1 A2 : Option Addr} {cs : List (Int × Int × Bool)} {st : List Int} (h : InsAt w w.heap.size A1 A2 cs st) {p : Addr} (u : Value) (h1 : ∀ ad, A1 = some ad → p.block < ad.block) (h2 : ∀ ad, A2 = some ad → p.block < ad.block) :
    InsAt (w.setCell p u) (w.setCell p u).heap.size A1 A2 cs st :=
  ⟨Rd.stay h.1 fun ad had hlt => (Stay.refl hlt).setCell (by have := h1 ad had; omega) u, Rd.stay h.2 fun ad had hlt => (Stay.refl hlt).setCell (by have := h2 ad had; omega) u⟩
/-- All events are copied. -/
theorem CpInv.done {B0 : Nat} {evs : List Ev} {w : World} {Q : Option Addr} {d n : Nat} (hn : n = evs.length) (h : CpInv B0 evs n w (.slice Q n d)) : EvsAt w w.heap.size Q evs ∧ n ≤ d := by
  obtain ⟨ms, h1, h2, h3⟩ := h
  have ht : evs.take n = evs := List.take_of_length_le (by omega)
  rw [ht] at h2
  obtain ⟨A, c, hv, hr, _, hc⟩ := rd_of_own h2 (evz_len _ _) rfl (by simp; omega)
  injection hv with e1 e2 e3
  subst e1 e3
  exact ⟨⟨ms, by omega, hr, fun k e m he hm => (h3 k e m he hm).1⟩, hc⟩
def CopyPc (p : Pce) (W : World) (e : Ending) (w' : World) : Prop := ∃ M : PM, e = .returned (pcValue M p) ∧ Below W.heap.size W w' ∧ PcAt w' w'.heap.size M p
theorem rCopy_any (M : PM) (p : Pce) (w : World) (hP : PcAt w w.heap.size M p) (hO : PcOk p) : Calls Tryz.prog 7 #[pcValue M p] w (CopyPc p w) := by
  obtain ⟨A1, A2, A3, c1, c2, c3⟩ := M
  obtain ⟨cs, st, evs⟩ := p
  have HP := Lib.hid hP
  have H4 := Lib.hid hO.n4
  have hn3 := hO.n3
  have hCI := fun (w' : World) (hI : InsAt w' w'.heap.size A1 A2 cs st) => rInsCopy A1 A2 cs st c1 c2 w' hI hO.n1 hO.n2
  obtain ⟨i6, hi6, hz6, hs6, hb6⟩ := info_parts infoEvent
  obtain ⟨i5, hi5, hz5, hs5, hb5⟩ := info_parts infoStop
  unfold pcValue
  simp only at *
  obtain ⟨n1, hn1⟩ : ∃ n, cs.length = n := ⟨_, rfl⟩
  obtain ⟨n2, hn2⟩ : ∃ n, st.length = n := ⟨_, rfl⟩
  obtain ⟨n3, hnn⟩ : ∃ n, evs.length = n := ⟨_, rfl⟩
  have HQ : Hid (∀ (B1 B2 B3 : Option Addr) (d1 d2 d3 : Nat) (w' : World), Below w.heap.size w w' → PcAt w' w'.heap.size ⟨B1, B2, B3, d1, d2, d3⟩ ⟨cs, st, evs⟩ → CopyPc ⟨cs, st, evs⟩ w (.returned (.agg #[.slice B1 n1 d1, .slice B2 n2 d2, .slice B3 n3 d3])) w') :=
    Lib.hid fun B1 B2 B3 d1 d2 d3 w' hb hp => ⟨⟨B1, B2, B3, d1, d2, d3⟩, by simp [pcValue, hn1, hn2, hnn], hb, hp⟩
  have KC : Hid (∀ w', InsAt w' w'.heap.size A1 A2 cs st → Calls Tryz.prog 20 #[.agg #[.slice A1 n1 c1, .slice A2 n2 c2]] w' (fun e w1 => ∃ (B1 B2 : Option Addr) (d1 d2 : Nat), e = .returned (.agg #[.slice B1 n1 d1, .slice B2 n2 d2]) ∧ Below w'.heap.size w' w1 ∧ InsAt w1 w1.heap.size B1 B2 cs st ∧ (∀ ad, B1 = some ad → w'.heap.size ≤ ad.block) ∧ (∀ ad, B2 = some ad → w'.heap.size ≤ ad.block) ∧ n1 ≤ d1 ∧ n2 ≤ d2)) :=
    Lib.hid fun w' hI => by have := hCI w' hI; unfold CopyIns at this; rw [hn1, hn2] at this; exact this
  have HN := Lib.hid hnn
  rw [hn1, hn2, hnn]
  rw [hnn] at hn3
  clear hCI hP hO hn1 hn2 hnn
  go_enter Tryz.func7, Tryz.ntmps7
  go_wp2_with (go_at_call 20; refine (KC.out _ ((HP.out.1.alloc (Nat.le_refl _) _).alloc (by simp) _ |>.more (by simp; omega))).mono ?_; rintro e' w1 ⟨B1, B2, d1, d2, rfl, hb1, hI1, hF1, hF2, hC1x, hC2x⟩; clear hC1x hC2x; have HI1 := Lib.hid hI1; have HF1 := Lib.hid hF1; have HF2 := Lib.hid hF2; clear hI1 hF1 hF2)
  have hsz1 : w.heap.size + 2 ≤ w1.heap.size := by have := hb1.size; simpa using this
  have hbP := ((Blk.new _ _ _).alloc (.cells #[.slice none 0 0, .slice none 0 0, .slice none 0 0] 29)).after hb1
  have hbR : Blk w1 (w.heap.size + 1) 29 #[.slice none 0 0, .slice none 0 0, .slice none 0 0] := Blk.after (blk_new' (by simp)) hb1
  have hbel1 : Below w.heap.size w w1 := (by repeat (first | exact Below.refl _ _ | assumption | refine bel_drewN ?_ _ | refine Below.drew ?_ | refine bel_alloc ?_ _ | refine Below.setCell ?_ (by first | omega | (simp; done) | (simp; omega)) _ | refine bel_step ?_ (by assumption)))
  have HBP := Lib.hid hbP
  have HBR := Lib.hid hbR
  have HB1 := Lib.hid hb1
  clear hbP hbR hb1
  go_loopw [4] (fun v wr => ∃ (k : Nat) (Q : Option Addr) (d : Nat), k ≤ n3 ∧ v = .int .i64 k ∧ Below w.heap.size w wr ∧ Below w1.heap.size w1 wr ∧ Blk wr w.heap.size 29 #[.slice A1 n1 c1, .slice A2 n2 c2, .slice A3 n3 c3] ∧ Blk wr (w.heap.size + 1) 29 #[.slice none 0 0, .slice none 0 0, .slice none 0 0] ∧
      Blk wr w1.heap.size 29 #[.slice B1 n1 d1, .slice B2 n2 d2, .slice Q k d] ∧ CpInv (w1.heap.size + 1) evs k wr (.slice Q k d)) (fun v _ => n3 - (intOf v).toNat)
  case atStart => exact ⟨0, none, 0, Nat.zero_le _, rfl, hbel1.alloc (by omega) _, (Below.refl _ _).alloc (Nat.le_refl _) _, HBP.out.alloc _, HBR.out.alloc _, Blk.new _ _ _, CpInv.start _ _ _⟩
  case round =>
    obtain ⟨k, Q, d, hk, rfl, hbel, hbelw1, hbp, hbr, hbq, hinv⟩ := hrel
    have KP := Lib.hid hbp
    have KR := Lib.hid hbr
    have KQ := Lib.hid hbq
    have KI := Lib.hid hinv
    have hlt0 : w.heap.size < wr.heap.size := hbp.lt
    have hlt1 : w.heap.size + 1 < wr.heap.size := hbr.lt
    have hlt2 : w1.heap.size < wr.heap.size := hbq.lt
    have q0 : wr.cell? ⟨w.heap.size, 0, none⟩ = some (.slice A1 n1 c1) := hbp.cell 0
    have q1 : wr.cell? ⟨w.heap.size, 1, none⟩ = some (.slice A2 n2 c2) := hbp.cell 1
    have q2 : wr.cell? ⟨w.heap.size, 2, none⟩ = some (.slice A3 n3 c3) := hbp.cell 2
    clear hbp hbr hbq hinv
    by_cases hlt : k < n3
    · have hk2 : k < evs.length := by have := HN.out; omega
      have HE := Lib.hid (HP.out.2.1.below hbel)
      obtain ⟨ad, S, c, hA, hb, e0, e1, e2, e3, e4, e5, hS⟩ := HE.out.ev hk2
      subst hA
      have HS := Lib.hid hS
      have H20 := H4.out _ hk2
      obtain ⟨ms, hms, hown0, hst⟩ := KI.out
      have HM := Lib.hid hms
      have HO := Lib.hid hown0
      have HT := Lib.hid hst
      obtain ⟨e, he⟩ : ∃ e, evs[k] = e := ⟨_, rfl⟩
      rw [he] at e0 e1 e2 e3 e4 e5 H20
      rw [he] at HS
      have HEQ := Lib.hid he
      have hadb : ad.block < wr.heap.size := by omega
      clear hS hms hown0 hst he
      go_wp2_with (first
        | (at_builtin
           refine wpList_append_new rfl (.tmp 22) (.tmp 24) _ rfl 54 i5 _ 5 40 Tryz.underlying44 hi5 hz5 hs5 hb5 rfl (by omega) (wr.heap.size + 1) rfl (by repeat (first | with_reducible assumption | with_reducible refine Blk.drew ?_ | with_reducible exact blk_new' (by simp) | with_reducible refine Blk.alloc ?_ _ | with_reducible refine Blk.far ?_ (by first | omega | (simp; done) | (simp; omega)) _ | with_reducible refine blk_grown ?_ (by assumption) (by first | omega | (simp; done) | (simp; omega)))) w.heap.size S (e.stops.map stpCells) _ c rfl (by simp) ((HS.out.alloc (by omega) _).alloc (by simp; omega) _) (stp_len _) (stp_one _) (by simp only [List.length_map, maxLen]; omega) (by simp only [List.length_map]; omega) ?_
           intro T ct w2 hT hg hat0
           have hat := hat0.1
           clear hat0
           have hsz2 : wr.heap.size + 2 ≤ w2.heap.size := (by have := hg.size; simpa using this)
           have kx : Blk w2 wr.heap.size 46 #[.bool e.bar, .int .i64 e.val, .bool e.dot, .bool e.three, .bool e.tie, .slice S e.stops.length c] := blk_grown ((Blk.new _ _ _).alloc _) hg (by simp)
           have kq : Blk w2 w1.heap.size 29 #[.slice B1 n1 d1, .slice B2 n2 d2, .slice Q k d] := blk_grown ((KQ.out.alloc _).alloc _) hg (by simp; omega)
           have kp : Blk w2 w.heap.size 29 #[.slice A1 n1 c1, .slice A2 n2 c2, .slice (some ad) n3 c3] := blk_grown ((KP.out.alloc _).alloc _) hg (by simp; omega)
           have kr : Blk w2 (w.heap.size + 1) 29 #[.slice none 0 0, .slice none 0 0, .slice none 0 0] := blk_grown ((KR.out.alloc _).alloc _) hg (by simp; omega)
           have x0 : w2.cell? ⟨wr.heap.size, 0, none⟩ = some (.bool e.bar) := kx.cell 0
           have x1 : w2.cell? ⟨wr.heap.size, 1, none⟩ = some (.int .i64 e.val) := kx.cell 1
           have x2 : w2.cell? ⟨wr.heap.size, 2, none⟩ = some (.bool e.dot) := kx.cell 2
           have x3 : w2.cell? ⟨wr.heap.size, 3, none⟩ = some (.bool e.three) := kx.cell 3
           have x4 : w2.cell? ⟨wr.heap.size, 4, none⟩ = some (.bool e.tie) := kx.cell 4
           have x5 : w2.cell? ⟨wr.heap.size, 5, none⟩ = some (.slice S e.stops.length c) := kx.cell 5
           have xf5 := kx.frozen 5
           have y0 : w2.cell? ⟨w1.heap.size, 0, none⟩ = some (.slice B1 n1 d1) := kq.cell 0
           have yf0 := kq.frozen 0
           have y1 : w2.cell? ⟨w1.heap.size, 1, none⟩ = some (.slice B2 n2 d2) := kq.cell 1
           have yf1 := kq.frozen 1
           have y2 : w2.cell? ⟨w1.heap.size, 2, none⟩ = some (.slice Q k d) := kq.cell 2
           have yf2 := kq.frozen 2
           have KX2 := Lib.hid kx
           have KQ2 := Lib.hid kq
           have KP2 := Lib.hid kp
           have KR2 := Lib.hid kr
           have HG := Lib.hid hg
           have HTT := Lib.hid hT
           have HAT := Lib.hid hat
           clear kx kq kp kr hg hT hat)
        | (at_builtin
           refine wpList_append_rd rfl (.tmp 28) (.tmp 30) _ rfl (w1.heap.size + 1) 46 i6 _ 6 56 Tryz.underlying27 hi6 hz6 hs6 hb6 rfl (by omega) (.slice Q k d) k (List.zipWith evCells (evs.take k) ms) rfl (cp_own HO.out HG.out (by simp) (Nat.le_refl _)) (evz_len _ _) (by have := HM.out; first | omega | (simp; done) | (simp; omega)) _ (some ⟨w2.heap.size, 0, none⟩) [evCells e (T, ct)] 1 1 rfl rfl (rd_block (blk_new' (by simp [World.setCell])) rfl) (ev_len6 e (T, ct)) (ev_one _ _) (by show k + 1 ≤ maxLen; unfold maxLen; omega) (by show (k + 1) * 56 ≤ _; omega) (by simp [World.setCell] <;> omega) ?_
           intro Q' d' w3 hown hg3 hatq
           have kq : Blk w3 w1.heap.size 29 #[.slice B1 n1 d1, .slice B2 n2 d2, .slice Q k d] := blk_grown ((KQ2.out.far (p := ⟨wr.heap.size, 5, none⟩) (by show w1.heap.size ≠ wr.heap.size; omega) _).alloc _) hg3 (fun ee => by have := (own_lt HO.out _ ee.symm).1; omega)
           have kp : Blk w3 w.heap.size 29 #[.slice A1 n1 c1, .slice A2 n2 c2, .slice (some ad) n3 c3] := blk_grown ((KP2.out.far (p := ⟨wr.heap.size, 5, none⟩) (by show w.heap.size ≠ wr.heap.size; omega) _).alloc _) hg3 (fun ee => by have := (own_lt HO.out _ ee.symm).1; omega)
           have kr : Blk w3 (w.heap.size + 1) 29 #[.slice none 0 0, .slice none 0 0, .slice none 0 0] := blk_grown ((KR2.out.far (p := ⟨wr.heap.size, 5, none⟩) (by show w.heap.size + 1 ≠ wr.heap.size; omega) _).alloc _) hg3 (fun ee => by have := (own_lt HO.out _ ee.symm).1; omega)
           have hbA : Below w.heap.size w w2 := bel_grown (bel_alloc (bel_alloc hbel _) _) HG.out (by omega)
           have hbB : Below w.heap.size w w3 := Below.grown (bel_alloc (Below.setCell hbA (by show w.heap.size ≤ wr.heap.size; omega) _) _) hg3 (by simp [World.setCell]; omega) (fun g hgv => by have := (own_lt HO.out g hgv).1; omega)
           have hbA1 : Below w1.heap.size w1 w2 := bel_grown (bel_alloc (bel_alloc hbelw1 _) _) HG.out (by omega)
           have hbB1 : Below w1.heap.size w1 w3 := Below.grown (bel_alloc (Below.setCell hbA1 (by show w1.heap.size ≤ wr.heap.size; omega) _) _) hg3 (by simp [World.setCell]; omega) (fun g hgv => by have := (own_lt HO.out g hgv).1; omega)
           have hsz3 : w2.heap.size < w3.heap.size := by have := hg3.size; simp [World.setCell] at this; omega
           have z2 : w3.cell? ⟨w1.heap.size, 2, none⟩ = some (.slice Q k d) := kq.cell 2
           have zf2 := kq.frozen 2
           have KINV := Lib.hid (CpInv.step (bq := w1.heap.size) (u' := .slice Q' (k + 1) d') HM.out hk2 HO.out HT.out HG.out (by omega) (by simp) (by rw [HEQ.out]; exact HTT.out) HAT.out (by rw [HEQ.out]; exact hown) hg3 rfl hatq (by omega) (by omega))
           have KQ3 := Lib.hid kq
           have KP3 := Lib.hid kp
           have KR3 := Lib.hid kr
           clear kq kp kr hg3 hatq hown hbA hbA1))
      go_roundw
      case rel => exact ⟨k + 1, Q', d', by omega, by go_num, hbB.setCell (by show w.heap.size ≤ w1.heap.size; omega) _, hbB1.setCell (Nat.le_refl _) _, KP3.out.far (p := ⟨w1.heap.size, 2, none⟩) (by show w.heap.size ≠ w1.heap.size; omega) _, KR3.out.far (p := ⟨w1.heap.size, 2, none⟩) (by show w.heap.size + 1 ≠ w1.heap.size; omega) _, KQ3.out.set_ 2 _, KINV.out⟩
      case measure => simp [intOf]; omega
    · have hkn : k = n3 := by omega
      subst hkn
      have y0 : wr.cell? ⟨w1.heap.size, 0, none⟩ = some (.slice B1 n1 d1) := KQ.out.cell 0
      have y1 : wr.cell? ⟨w1.heap.size, 1, none⟩ = some (.slice B2 n2 d2) := KQ.out.cell 1
      have y2 : wr.cell? ⟨w1.heap.size, 2, none⟩ = some (.slice Q k d) := KQ.out.cell 2
      have z0 : wr.cell? ⟨w.heap.size + 1, 0, none⟩ = some (.slice none 0 0) := KR.out.cell 0
      have z1 : wr.cell? ⟨w.heap.size + 1, 1, none⟩ = some (.slice none 0 0) := KR.out.cell 1
      have z2 : wr.cell? ⟨w.heap.size + 1, 2, none⟩ = some (.slice none 0 0) := KR.out.cell 2
      have zf0 := KR.out.frozen 0
      have zf1 := KR.out.frozen 1
      have zf2 := KR.out.frozen 2
      go_wp2_with fail
      have K5 := ((KR.out.set_ 0 (.slice B1 n1 d1)).set_ 1 (.slice B2 n2 d2)).set_ 2 (.slice Q k d)
      have hbF : Below w.heap.size w (((wr.setCell ⟨w.heap.size + 1, 0, none⟩ (.slice B1 n1 d1)).setCell ⟨w.heap.size + 1, 1, none⟩ (.slice B2 n2 d2)).setCell ⟨w.heap.size + 1, 2, none⟩ (.slice Q k d)) := ((hbel.setCell (by show w.heap.size ≤ w.heap.size + 1; omega) _).setCell (by show w.heap.size ≤ w.heap.size + 1; omega) _).setCell (by show w.heap.size ≤ w.heap.size + 1; omega) _
      have hf1 : ∀ ad, B1 = some ad → w.heap.size + 1 < ad.block := fun ad h => by have := HF1.out ad h; simp at this; omega
      have hf2 : ∀ ad, B2 = some ad → w.heap.size + 1 < ad.block := fun ad h => by have := HF2.out ad h; simp at this; omega
      have hI := (((HI1.out.after hbelw1).far (p := ⟨w.heap.size + 1, 0, none⟩) (.slice B1 n1 d1) hf1 hf2).far (p := ⟨w.heap.size + 1, 1, none⟩) (.slice B2 n2 d2) hf1 hf2).far (p := ⟨w.heap.size + 1, 2, none⟩) (.slice Q k d) hf1 hf2
      have hE := CpInv.done HN.out.symm (((KI.out.far (p := ⟨w.heap.size + 1, 0, none⟩) (by show w.heap.size + 1 < w1.heap.size + 1; omega) (.slice B1 n1 d1)).far (p := ⟨w.heap.size + 1, 1, none⟩) (by show w.heap.size + 1 < w1.heap.size + 1; omega) (.slice B2 n2 d2)).far (p := ⟨w.heap.size + 1, 2, none⟩) (by show w.heap.size + 1 < w1.heap.size + 1; omega) (.slice Q k d))
      refine bodyPost_ret (v := .agg #[.slice B1 n1 d1, .slice B2 n2 d2, .slice Q k d]) ?_ rfl (HQ.out _ _ _ _ _ _ _ hbF ⟨hI, hE.1, by show evs.length ≤ d; have := HN.out; have := hE.2; omega⟩)
      clear hbF hI hE
      generalize (((wr.setCell ⟨w.heap.size + 1, 0, none⟩ (.slice B1 n1 d1)).setCell ⟨w.heap.size + 1, 1, none⟩ (.slice B2 n2 d2)).setCell ⟨w.heap.size + 1, 2, none⟩ (.slice Q k d)) = wf at K5 ⊢
      have t0 : wf.cell? ⟨w.heap.size + 1, 0, none⟩ = some (.slice B1 n1 d1) := K5.cell 0
      have t1 : wf.cell? ⟨w.heap.size + 1, 1, none⟩ = some (.slice B2 n2 d2) := K5.cell 1
      have t2 : wf.cell? ⟨w.heap.size + 1, 2, none⟩ = some (.slice Q k d) := K5.cell 2
      simp [results, Tryz.results7, go_sem, t0, t1, t2]
end Go.Proofs.YteldgllgagjciaaGreat

namespace Go.Proofs.YteldgllgagjciaaGreat
open Go.RowKit
set_option linter.unusedVariables false
set_option linter.unusedSimpArgs false
set_option maxRecDepth 100000
set_option maxHeartbeats 4000000
theorem pcCopy_FS (p : Pce) (hO : PcOk p) : Ctr Tryz.prog 7 [ePce p] (ePce p) := by
  refine Ctr.intro Tryz.func7 rfl Tryz.ntmps7 (Nat.le_of_ble_eq_true rfl) (bd_all rfl) fun w0 F0 => ?_
  have hn3 := hO.n3
  repeat (first | refine W.go rfl ?_ | refine WL.nil ?_ | refine WL.ev rfl ?_ | refine WL.gyes rfl rfl rfl rfl ?_ | refine WL.opno rfl rfl rfl rfl rfl rfl rfl ?_ | refine WL.ar rfl rfl (by unfold I64; omega) ?_ | refine WL.len rfl rfl (by first | exact List.length_map _ | exact List.length_replicate | rfl) ?_ | refine WL.idx rfl rfl (by omega) (by first | exact map_at (by omega) | exact map_atZ (by omega) (by omega)) ?_ | refine WL.ixs rfl rfl (by first | omega | (simp; done) | (simp; omega)) ?_ | refine WL.app rfl rfl rfl (by first | omega | (simp; done) | (simp; omega)) ?_ | refine WL.cat rfl rfl (by first | omega | (simp; done) | (simp; omega)) ?_ | refine W.condT rfl ?_ | refine W.condF rfl ?_)
  (first | refine (?_ : W _ _ _ _ _) | refine (?_ : WL _ _ _ _ _ _) | skip)
  try dsimp only [St.put, Nat.reduceAdd]
  refine WL.vl rfl (WV.call rfl (callF Tryz.func20 rfl rfl) rfl rfl (insCopy_FS p.cs p.st hO.n1 hO.n2)) ?_
  repeat (first | refine W.go rfl ?_ | refine WL.nil ?_ | refine WL.ev rfl ?_ | refine WL.gyes rfl rfl rfl rfl ?_ | refine WL.opno rfl rfl rfl rfl rfl rfl rfl ?_ | refine WL.ar rfl rfl (by unfold I64; omega) ?_ | refine WL.len rfl rfl (by first | exact List.length_map _ | exact List.length_replicate | rfl) ?_ | refine WL.idx rfl rfl (by omega) (by first | exact map_at (by omega) | exact map_atZ (by omega) (by omega)) ?_ | refine WL.ixs rfl rfl (by first | omega | (simp; done) | (simp; omega)) ?_ | refine WL.app rfl rfl rfl (by first | omega | (simp; done) | (simp; omega)) ?_ | refine WL.cat rfl rfl (by first | omega | (simp; done) | (simp; omega)) ?_ | refine W.condT rfl ?_ | refine W.condF rfl ?_)
  (first | refine (?_ : W _ _ _ _ _) | refine (?_ : WL _ _ _ _ _ _) | skip)
  try dsimp only [St.put, Nat.reduceAdd]
  refine W.tr (Tr.nilBox (k := 2) (j := 2) 46 6 rfl rfl rfl rfl) ?_
  refine W.loop (fun k : Nat => k ≤ p.evs.length) (fun k => ⟨[(1, .pt 0 0 0), (2, .pt 1 0 0), (3, .pt 2 0 0), (4, .sc (.int .i64 k))], [(0, .box 29 [.ls 3 (p.cs.map eCrs), .ls 1 (p.st.map eInt), .ls 6 (p.evs.map eEv)]), (1, .box 29 [.sc (.slice none 0 0), .sc (.slice none 0 0), .sc (.slice none 0 0)]), (2, .box 29 [.ls 3 (p.cs.map eCrs), .ls 1 (p.st.map eInt), .sl 3]), (3, .row 46 6 ((p.evs.take k).map eEv))], 4⟩) (fun k => p.evs.length - k) 0 (by omega) (Tr.ren id (by repeat (first | exact trivial | refine ⟨⟨?_, ?_⟩, ?_⟩ | rfl)) (by repeat (first | exact trivial | refine ⟨⟨?_, ?_, ?_⟩, ?_⟩ | rfl)) rfl) fun k hk => ?_
  repeat (first | refine W.go rfl ?_ | refine WL.nil ?_ | refine WL.ev rfl ?_ | refine WL.gyes rfl rfl rfl rfl ?_ | refine WL.opno rfl rfl rfl rfl rfl rfl rfl ?_ | refine WL.ar rfl rfl (by unfold I64; omega) ?_ | refine WL.len rfl rfl (by first | exact List.length_map _ | exact List.length_replicate | rfl) ?_ | refine WL.idx rfl rfl (by omega) (by first | exact map_at (by omega) | exact map_atZ (by omega) (by omega)) ?_ | refine WL.ixs rfl rfl (by first | omega | (simp; done) | (simp; omega)) ?_ | refine WL.app rfl rfl rfl (by first | omega | (simp; done) | (simp; omega)) ?_ | refine WL.cat rfl rfl (by first | omega | (simp; done) | (simp; omega)) ?_ | refine W.condT rfl ?_ | refine W.condF rfl ?_)
  (first | refine (?_ : W _ _ _ _ _) | refine (?_ : WL _ _ _ _ _ _) | skip)
  try dsimp only [St.put, Nat.reduceAdd]
  (refine W.cond rfl (fun hif => ?_) (fun hif => ?_) <;> (try simp only [decide_eq_true_eq, decide_eq_false_iff_not, Int.not_lt, Int.not_le, Bool.not_eq_true', Bool.not_eq_false'] at hif))
  · have hk2 : k < p.evs.length := by omega
    have h20 := hO.n4 k hk2
    repeat (first | refine W.go rfl ?_ | refine WL.nil ?_ | refine WL.ev rfl ?_ | refine WL.gyes rfl rfl rfl rfl ?_ | refine WL.opno rfl rfl rfl rfl rfl rfl rfl ?_ | refine WL.ar rfl rfl (by unfold I64; omega) ?_ | refine WL.len rfl rfl (by first | exact List.length_map _ | exact List.length_replicate | rfl) ?_ | refine WL.idx rfl rfl (by omega) (by first | exact map_at (by omega) | exact map_atZ (by omega) (by omega)) ?_ | refine WL.ixs rfl rfl (by first | omega | (simp; done) | (simp; omega)) ?_ | refine WL.app rfl rfl rfl (by first | omega | (simp; done) | (simp; omega)) ?_ | refine WL.cat rfl rfl (by first | omega | (simp; done) | (simp; omega)) ?_ | refine W.condT rfl ?_ | refine W.condF rfl ?_)
    (first | refine (?_ : W _ _ _ _ _) | refine (?_ : WL _ _ _ _ _ _) | skip)
    try dsimp only [St.put, Nat.reduceAdd]
    refine WL.tr (Tr.freeze 6 rfl) ?_
    repeat (first | refine W.go rfl ?_ | refine WL.nil ?_ | refine WL.ev rfl ?_ | refine WL.gyes rfl rfl rfl rfl ?_ | refine WL.opno rfl rfl rfl rfl rfl rfl rfl ?_ | refine WL.ar rfl rfl (by unfold I64; omega) ?_ | refine WL.len rfl rfl (by first | exact List.length_map _ | exact List.length_replicate | rfl) ?_ | refine WL.idx rfl rfl (by omega) (by first | exact map_at (by omega) | exact map_atZ (by omega) (by omega)) ?_ | refine WL.ixs rfl rfl (by first | omega | (simp; done) | (simp; omega)) ?_ | refine WL.app rfl rfl rfl (by first | omega | (simp; done) | (simp; omega)) ?_ | refine WL.cat rfl rfl (by first | omega | (simp; done) | (simp; omega)) ?_ | refine W.condT rfl ?_ | refine W.condF rfl ?_)
    (first | refine (?_ : W _ _ _ _ _) | refine (?_ : WL _ _ _ _ _ _) | skip)
    try dsimp only [St.put, Nat.reduceAdd]
    refine ⟨k + 1, by omega, by omega, Tr.ren (fun q => bif Nat.beq q 3 then 8 else q) (by repeat (first | exact trivial | refine ⟨⟨?_, ?_⟩, ?_⟩ | rfl)) (by repeat (first | exact trivial | refine ⟨⟨?_, ?_, ?_⟩, ?_⟩ | exact congrArg (fun r => some (AO.row _ _ r)) (take_map_succ hk2) | rfl)) rfl⟩
  · have he : k = p.evs.length := by omega
    subst he
    repeat (first | refine W.go rfl ?_ | refine WL.nil ?_ | refine WL.ev rfl ?_ | refine WL.gyes rfl rfl rfl rfl ?_ | refine WL.opno rfl rfl rfl rfl rfl rfl rfl ?_ | refine WL.ar rfl rfl (by unfold I64; omega) ?_ | refine WL.len rfl rfl (by first | exact List.length_map _ | exact List.length_replicate | rfl) ?_ | refine WL.idx rfl rfl (by omega) (by first | exact map_at (by omega) | exact map_atZ (by omega) (by omega)) ?_ | refine WL.ixs rfl rfl (by first | omega | (simp; done) | (simp; omega)) ?_ | refine WL.app rfl rfl rfl (by first | omega | (simp; done) | (simp; omega)) ?_ | refine WL.cat rfl rfl (by first | omega | (simp; done) | (simp; omega)) ?_ | refine W.condT rfl ?_ | refine W.condF rfl ?_)
    (first | refine (?_ : W _ _ _ _ _) | refine (?_ : WL _ _ _ _ _ _) | skip)
    try dsimp only [St.put, Nat.reduceAdd]
    refine W.tr (Tr.freeze 3 rfl) ?_
    refine W.ret (fin_cell rfl rfl rfl rfl rfl rfl ?_ rfl)
    show AV.ag [_, _, .ls 6 ((p.evs.take p.evs.length).map eEv)] = ePce p
    rw [List.take_length]
    rfl
end Go.Proofs.YteldgllgagjciaaGreat
