/- strings.Join: its contract. (The tool does not lay it here, for its closure's table of numbers; the bodies are the same.) -/
import Derived.Test.YtkgnmddakiagbaaGreatDoorInsYq
import Derived.Test.YtkgnmddakiagbaaGreatDoorShelfYq
import Derived.Shelf.Strings.OnBuilder
set_option linter.unusedVariables false
set_option linter.unusedSimpArgs false
namespace Go.Proofs.YtkgnmddakiagbaaGreatDoor
open Go.RowKit
set_option maxHeartbeats 400000
set_option maxRecDepth 100000
attribute [local go_sem] mk_bs bs_size bs_toList bs_append bs_extract
attribute [local simp] run_cut run_cut_to run_cut_from run_add_bs
def frLetters : List UInt8 := [97, 98, 99, 100, 101, 102, 103, 104, 105, 107, 108, 109, 110, 111, 112, 113, 114, 115, 116]
def figLetters : List UInt8 := [48, 49, 50, 51, 52, 53, 54, 55, 56, 57, 120]
def rsmall : List UInt8 := [97, 98, 99, 100, 101, 102, 103, 104, 105, 107, 108, 109, 110, 111, 112, 113, 114, 115, 116, 118, 120, 121, 122, 38, 57]
def rge (c f : Int) : List UInt8 :=
  if c = 6 then cut [43, 65, 66, 67, 68, 69, 70, 71, 72, 73, 75] f (f + 1)
  else if f = 0 then cut [49, 50, 51, 52, 53] (5 - c) (6 - c)
  else if 5 < f then cut rsmall (5 * ((f - 1) % 5) + 5 - c) (5 * ((f - 1) % 5) + 6 - c) ++ cut rsmall (5 * ((f - 1) % 5) + 5 - c) (5 * ((f - 1) % 5) + 6 - c)
  else cut rsmall (5 * ((f - 1) % 5) + 5 - c) (5 * ((f - 1) % 5) + 6 - c)
def itOuter (c : Int) : List UInt8 := [[55], [56], [57], [120], [49, 49], [49, 50], [49, 51], [49, 52]].getD (c - 7).toNat []
def rS (s c f : Int) : List UInt8 :=
  if s = 1 then
    (if c ≤ 7 then cut frLetters f (f + 1) else if c ≤ 10 then cut [47, 47, 47] 0 (c - 7) ++ cut frLetters f (f + 1) else if f = 0 then cut [52, 53, 54, 55] (c - 11) (c - 10) else [])
  else if s = 4 then (if c ≤ 6 ∧ f ≤ 10 then rge c f else [])
  else if c ≤ 6 ∧ f ≤ 10 then cut figLetters f (f + 1) else if s = 2 ∧ 6 < c ∧ f = 0 then itOuter c else []
set_option maxHeartbeats 800000
end Go.Proofs.YtkgnmddakiagbaaGreatDoor
namespace Go.Proofs.YtkgnmddakiagbaaGreatDoor
open Go.RowKit
def lineV (s c n : Int) : Int := if s = 4 then 0 else if s = 2 then n + 1 - c else c
theorem insE_len {cs : List (Int × Int × Bool)} {st : List Int} (h : insE cs st = 0) : 1 ≤ cs.length ∧ cs.length ≤ 14 ∧ st.length ≤ 18 ∧ stepsBad 0 st = false ∧ crsE st cs = 0 := by
  unfold insE at h
  by_cases h1 : 14 < cs.length ∨ 18 < st.length
  · rw [if_pos h1] at h; cases h
  · rw [if_neg h1] at h
    by_cases h2 : cs.length = 0
    · rw [if_pos h2] at h; cases h
    · rw [if_neg h2] at h
      by_cases h3 : stepsBad 0 st = true
      · rw [if_pos h3] at h; cases h
      · rw [if_neg h3] at h
        exact ⟨by omega, by omega, by omega, by simpa using h3, h⟩
end Go.Proofs.YtkgnmddakiagbaaGreatDoor
namespace Go.Proofs.YtkgnmddakiagbaaGreatDoor
open Go.RowKit
set_option maxHeartbeats 1600000
set_option maxRecDepth 100000
theorem topOf_fret {st : List Int} {p : Int} {k : Nat} {o : Bool} (hk : k < st.length) : topOf st (p, (k : Int) + 1, o) = p + st[k] + if o then 12 else 0 := by
  unfold topOf
  have h0 : (0 : Int) < (k : Int) + 1 := by omega
  have : ((k : Int) + 1).toNat - 1 = k := by omega
  simp only [if_pos h0]
  rw [this, List.getD_eq_getElem?_getD, List.getElem?_eq_getElem hk]; rfl
theorem topOf_open {st : List Int} {p : Int} {o : Bool} : topOf st (p, 0, o) = p + if o then 12 else 0 := by unfold topOf; simp
theorem rInsCheck (A1 A2 : Option Addr) (cs : List (Int × Int × Bool)) (st : List Int) (n1 n2 c1 c2 : Nat) (w : World) (hI : InsAt w w.heap.size A1 A2 cs st) (hn1 : n1 = cs.length) (hn2 : n2 = st.length) :
    Calls Tryz.prog 93 #[.agg #[.slice A1 n1 c1, .slice A2 n2 c2]] w (Ret (.int .i64 (insE cs st)) w) := by
  by_cases hm1 : 14 < n1
  · rw [insE_many (.inl (by omega))]
    clear hn1 hn2 hI
    go_enter Tryz.func93, Tryz.ntmps93
    go_wp2
    go_ret
    exact Ret.mk' rfl (by repeat (first | exact Below.refl _ _ | assumption | refine bel_drewN ?_ _ | refine Below.drew ?_ | refine bel_alloc ?_ _ | refine Below.setCell ?_ (by first | omega | (simp; done) | (simp; omega)) _ | refine bel_step ?_ (by assumption)))
  · by_cases hm2 : 18 < n2
    · rw [insE_many (.inr (by omega))]
      clear hn1 hn2 hI
      go_enter Tryz.func93, Tryz.ntmps93
      go_wp2
      go_ret
      exact Ret.mk' rfl (by repeat (first | exact Below.refl _ _ | assumption | refine bel_drewN ?_ _ | refine Below.drew ?_ | refine bel_alloc ?_ _ | refine Below.setCell ?_ (by first | omega | (simp; done) | (simp; omega)) _ | refine bel_step ?_ (by assumption)))
    · by_cases hz : n1 = 0
      · rw [insE_none (by omega) (by omega)]
        subst hz
        clear hn1 hn2 hI
        go_enter Tryz.func93, Tryz.ntmps93
        go_wp2
        go_ret
        exact Ret.mk' rfl (by repeat (first | exact Below.refl _ _ | assumption | refine bel_drewN ?_ _ | refine Below.drew ?_ | refine bel_alloc ?_ _ | refine Below.setCell ?_ (by first | omega | (simp; done) | (simp; omega)) _ | refine bel_step ?_ (by assumption)))
      · have hnz : 0 < n1 := by omega
        have HI := Lib.hid hI
        have HN1 := Lib.hid hn1
        have HN2 := Lib.hid hn2
        have HE1 := Lib.hid (fun h => insE_steps (cs := cs) (st := st) (by omega) h)
        have HE2 := Lib.hid (fun h => insE_crs (cs := cs) (st := st) (by omega) (by omega) h)
        have h18 : st.length ≤ 18 := by omega
        have hi1 : n2 ≤ 18 := by omega
        have hi2 : n1 ≤ 14 := by omega
        clear hI hn1 hn2 hz hm1 hm2
        go_enter Tryz.func93, Tryz.ntmps93
        go_wp2
        go_loop [3, 4] (fun last i => ∃ (k : Nat) (x : Int), k ≤ n2 ∧ i = .int .i64 k ∧ last = .int .i64 x ∧ stepsBad 0 st = stepsBad x (st.drop k)) (fun _ i => n2 - (intOf i).toNat)
        case atStart => exact ⟨0, 0, Nat.zero_le _, rfl, rfl, rfl⟩
        case round =>
          obtain ⟨k, x, hk, rfl, rfl, hs⟩ := hrel
          have HS := Lib.hid hs
          clear hs
          by_cases hlt : k < n2
          · have hk2 : k < st.length := by have := HN2.out; omega
            obtain ⟨ad, hA, hb, hc⟩ := HI.out.step hk2
            subst hA
            have hs2 := HS.out.trans (stepsBad_at hk2)
            obtain ⟨y, hy⟩ : ∃ y, st[k] = y := ⟨_, rfl⟩
            rw [hy] at hc hs2
            have hc2 : ∀ o : Obj, (w.alloc o).cell? (ad.add k) = some (.int .i64 y) := fun o => by
              rw [World.cell?_alloc_lt _ _ _ (by rw [block_of_add]; omega), hc]
            clear hc hy
            by_cases hb1 : y ≤ x
            · have HE := Lib.hid (HE1.out (hs2.trans (by simp [hb1])))
              clear hs2
              go_wp2
              go_ret
              exact Ret.mk' (by rw [HE.out]; rfl) (by repeat (first | exact Below.refl _ _ | assumption | refine bel_drewN ?_ _ | refine Below.drew ?_ | refine bel_alloc ?_ _ | refine Below.setCell ?_ (by first | omega | (simp; done) | (simp; omega)) _ | refine bel_step ?_ (by assumption)))
            · by_cases hb2 : 127 < y
              · have HE := Lib.hid (HE1.out (hs2.trans (by simp [hb2])))
                clear hs2
                go_wp2
                go_ret
                exact Ret.mk' (by rw [HE.out]; rfl) (by repeat (first | exact Below.refl _ _ | assumption | refine bel_drewN ?_ _ | refine Below.drew ?_ | refine bel_alloc ?_ _ | refine Below.setCell ?_ (by first | omega | (simp; done) | (simp; omega)) _ | refine bel_step ?_ (by assumption)))
              · have HS3 := Lib.hid (hs2.trans (show _ = stepsBad y (st.drop (k + 1)) by simp [hb1, hb2]))
                clear hs2
                go_wp2
                go_round
                case rel => exact ⟨k + 1, y, by omega, by go_num, rfl, HS3.out⟩
                case measure => simp [intOf]; omega
          · have hsF : stepsBad 0 st = false := by
              have h := HS.out
              rw [h, List.drop_eq_nil_of_le (by have := HN2.out; omega)]; rfl
            have HE := Lib.hid (HE2.out hsF)
            have HBD := Lib.hid (stepsBad_bd (by omega) hsF)
            clear hsF
            go_wp2
            go_loopw [5] (fun i wr => ∃ k : Nat, k ≤ n1 ∧ i = .int .i64 k ∧ crsE st cs = crsE st (cs.drop k) ∧ Below w.heap.size w wr ∧ Blk wr w.heap.size 26 #[.slice A1 n1 c1, .slice A2 n2 c2]) (fun i _ => n1 - (intOf i).toNat)
            case atStart => exact ⟨0, Nat.zero_le _, rfl, rfl, (by repeat (first | exact Below.refl _ _ | assumption | refine bel_drewN ?_ _ | refine Below.drew ?_ | refine bel_alloc ?_ _ | refine Below.setCell ?_ (by first | omega | (simp; done) | (simp; omega)) _ | refine bel_step ?_ (by assumption))), Blk.new _ _ _⟩
            case round =>
              obtain ⟨j, hj, rfl, hs, hbel, hblk⟩ := hrel
              have HC := Lib.hid hs
              have HB := Lib.hid hblk
              have hlt3 : w.heap.size < wr.heap.size := hblk.lt
              have q0 : wr.cell? ⟨w.heap.size, 0, none⟩ = some (.slice A1 n1 c1) := hblk.cell 0
              have q1 : wr.cell? ⟨w.heap.size, 1, none⟩ = some (.slice A2 n2 c2) := hblk.cell 1
              clear hs hblk
              by_cases hlt2 : j < n1
              · have hj2 : j < cs.length := by have := HN1.out; omega
                have HI2 := Lib.hid (HI.out.below hbel)
                obtain ⟨ad, hA, hb, hc0, hc1, hc2⟩ := HI2.out.crs hj2
                subst hA
                have hs2 := HC.out.trans (crsE_at hj2)
                obtain ⟨⟨p, f, o⟩, hx⟩ : ∃ x, cs[j] = x := ⟨_, rfl⟩
                rw [hx] at hc0 hc1 hc2 hs2
                simp only at hc0 hc1 hc2 hs2
                have HI3 := Lib.hid (fun o => HI2.out.alloc (hbel.size) o)
                have hbel4 : ∀ o : Obj, Below w.heap.size w (wr.alloc o) := fun o => hbel.alloc hbel.size o
                have HB4 := Lib.hid (fun o => HB.out.alloc o)
                have hn3 : (st.length : Int) = n2 := by have := HN2.out; omega
                by_cases b1 : f < 0
                · have HE3 := Lib.hid (HE.out.trans (hs2.trans (if_pos (.inl b1))))
                  clear hs2
                  go_wp2
                  go_ret
                  exact Ret.mk' (by rw [HE3.out]; rfl) (by repeat (first | exact Below.refl _ _ | assumption | refine bel_drewN ?_ _ | refine Below.drew ?_ | refine bel_alloc ?_ _ | refine Below.setCell ?_ (by first | omega | (simp; done) | (simp; omega)) _ | refine bel_step ?_ (by assumption)))
                · by_cases b2 : (n2 : Int) < f
                  · have HE3 := Lib.hid (HE.out.trans (hs2.trans (if_pos (.inr (by omega)))))
                    clear hs2 hn3
                    go_wp2
                    go_ret
                    exact Ret.mk' (by rw [HE3.out]; rfl) (by repeat (first | exact Below.refl _ _ | assumption | refine bel_drewN ?_ _ | refine Below.drew ?_ | refine bel_alloc ?_ _ | refine Below.setCell ?_ (by first | omega | (simp; done) | (simp; omega)) _ | refine bel_step ?_ (by assumption)))
                  · rw [if_neg (by omega)] at hs2
                    by_cases b3 : p < 0
                    · have HE3 := Lib.hid (HE.out.trans (hs2.trans (if_pos (.inl (.inl b3)))))
                      clear hs2 hn3
                      go_wp2
                      go_ret
                      exact Ret.mk' (by rw [HE3.out]; rfl) (by repeat (first | exact Below.refl _ _ | assumption | refine bel_drewN ?_ _ | refine Below.drew ?_ | refine bel_alloc ?_ _ | refine Below.setCell ?_ (by first | omega | (simp; done) | (simp; omega)) _ | refine bel_step ?_ (by assumption)))
                    · by_cases b4 : 127 < p
                      · have HE3 := Lib.hid (HE.out.trans (hs2.trans (if_pos (.inl (.inr b4)))))
                        clear hs2 hn3
                        go_wp2
                        go_ret
                        exact Ret.mk' (by rw [HE3.out]; rfl) (by repeat (first | exact Below.refl _ _ | assumption | refine bel_drewN ?_ _ | refine Below.drew ?_ | refine bel_alloc ?_ _ | refine Below.setCell ?_ (by first | omega | (simp; done) | (simp; omega)) _ | refine bel_step ?_ (by assumption)))
                      · have hsz := hbel.size
                        by_cases b6 : 0 < f
                        · obtain ⟨i, hi⟩ : ∃ i : Nat, f = (i : Int) + 1 := ⟨f.toNat - 1, by omega⟩
                          subst hi
                          have hi2 : i < st.length := by omega
                          obtain ⟨ad2, hA, hb3, hc3⟩ := HI2.out.step hi2
                          subst hA
                          have hbd := HBD.out i hi2
                          rw [topOf_fret hi2] at hs2
                          have hi3 : i < n2 := by omega
                          obtain ⟨y, hy⟩ : ∃ y, st[i] = y := ⟨_, rfl⟩
                          rw [hy] at hc3 hs2 hbd
                          have hc4 : ∀ o : Obj, (wr.alloc o).cell? (ad2.add i) = some (.int .i64 y) := fun o => by
                            rw [World.cell?_alloc_lt _ _ _ (by rw [block_of_add]; omega), hc3]
                          clear hc3 hy hn3
                          by_cases b5 : 127 < p + y + if o then 12 else 0
                          · have HE3 := Lib.hid (HE.out.trans (hs2.trans (if_pos (.inr b5))))
                            clear hs2
                            cases o
                            all_goals
                              simp only [if_true, Bool.false_eq_true, if_false] at b5
                              go_wp2
                              go_ret
                              exact Ret.mk' (by rw [HE3.out]; rfl) (by repeat (first | exact Below.refl _ _ | assumption | refine bel_drewN ?_ _ | refine Below.drew ?_ | refine bel_alloc ?_ _ | refine Below.setCell ?_ (by first | omega | (simp; done) | (simp; omega)) _ | refine bel_step ?_ (by assumption)))
                          · rw [if_neg (by omega)] at hs2
                            have HS4 := Lib.hid hs2
                            clear hs2
                            cases o
                            all_goals
                              simp only [if_true, Bool.false_eq_true, if_false] at b5
                              go_wp2
                              go_roundw
                              case rel => exact ⟨j + 1, by omega, by go_num, HS4.out, (by repeat (first | exact Below.refl _ _ | assumption | refine bel_drewN ?_ _ | refine Below.drew ?_ | refine bel_alloc ?_ _ | refine Below.setCell ?_ (by first | omega | (simp; done) | (simp; omega)) _ | refine bel_step ?_ (by assumption))), HB4.out _⟩
                              case measure => simp [intOf]; omega
                        · have hi : f = 0 := by omega
                          subst hi
                          rw [topOf_open] at hs2
                          clear hn3
                          by_cases b5 : 127 < p + if o then 12 else 0
                          · have HE3 := Lib.hid (HE.out.trans (hs2.trans (if_pos (.inr b5))))
                            clear hs2
                            cases o
                            all_goals
                              simp only [if_true, Bool.false_eq_true, if_false] at b5
                              first
                              | omega
                              | (go_wp2
                                 go_ret
                                 exact Ret.mk' (by rw [HE3.out]; rfl) (by repeat (first | exact Below.refl _ _ | assumption | refine bel_drewN ?_ _ | refine Below.drew ?_ | refine bel_alloc ?_ _ | refine Below.setCell ?_ (by first | omega | (simp; done) | (simp; omega)) _ | refine bel_step ?_ (by assumption))))
                          · rw [if_neg (by omega)] at hs2
                            have HS4 := Lib.hid hs2
                            clear hs2
                            cases o
                            all_goals
                              simp only [if_true, Bool.false_eq_true, if_false] at b5
                              go_wp2
                              go_roundw
                              case rel => exact ⟨j + 1, by omega, by go_num, HS4.out, (by repeat (first | exact Below.refl _ _ | assumption | refine bel_drewN ?_ _ | refine Below.drew ?_ | refine bel_alloc ?_ _ | refine Below.setCell ?_ (by first | omega | (simp; done) | (simp; omega)) _ | refine bel_step ?_ (by assumption))), HB4.out _⟩
                              case measure => simp [intOf]; omega
              · have HE3 := Lib.hid (HE.out.trans (HC.out.trans (show crsE st (cs.drop j) = 0 from by rw [List.drop_eq_nil_of_le (by have := HN1.out; omega)]; rfl)))
                go_wp2
                go_ret
                exact Ret.mk' (by rw [HE3.out]; rfl) (by repeat (first | exact Below.refl _ _ | assumption | refine bel_drewN ?_ _ | refine Below.drew ?_ | refine bel_alloc ?_ _ | refine Below.setCell ?_ (by first | omega | (simp; done) | (simp; omega)) _ | refine bel_step ?_ (by assumption)))
end Go.Proofs.YtkgnmddakiagbaaGreatDoor
namespace Go.Proofs.YtkgnmddakiagbaaGreatDoor
open Go.Shelf Go.RowKit
set_option maxRecDepth 100000
def joinRen : Go.Shelf.Ren := ⟨fun | 156 => 74 | 165 => 144 | 166 => 48 | 169 => 50 | 240 => 121 | 241 => 183 | 276 => 174 | 277 => 209 | n => n, fun | 0 => 0 | 3 => 3 | 4 => 4 | 9 => 9 | 20 => 20 | 31 => 132 | 37 => 93 | 70 => 92 | 72 => 95 | 75 => 97 | 76 => 98 | 127 => 203 | 164 => 258 | 5 => 5 | 80 => 100 | n => n, fun | n => n⟩
theorem joinLays : Go.Proofs.Lays.n156 Tryz.prog joinRen := {
  mixed := by kernel_rfl
  f156 := Tryz.func74.trans (congrArg some (by kernel_rfl))
  f165 := Tryz.func144.trans (congrArg some (by kernel_rfl))
  f166 := Tryz.func48.trans (congrArg some (by kernel_rfl))
  f169 := Tryz.func50.trans (congrArg some (by kernel_rfl))
  f240 := Tryz.func121.trans (congrArg some (by kernel_rfl))
  f241 := Tryz.func183.trans (congrArg some (by kernel_rfl))
  f276 := Tryz.func174.trans (congrArg some (by kernel_rfl))
  f277 := Tryz.func209.trans (congrArg some (by kernel_rfl))
  t0 := Tryz.underlying0
  a0 := Tryz.isAgg0
  z0 := Tryz.sizeOf0
  v0 := Tryz.zeroValue0
  t3 := Tryz.underlying3
  a3 := Tryz.isAgg3
  z3 := Tryz.sizeOf3
  v3 := Tryz.zeroValue3
  t4 := Tryz.underlying4
  a4 := Tryz.isAgg4
  z4 := Tryz.sizeOf4
  v4 := Tryz.zeroValue4
  t9 := Tryz.underlying9
  a9 := Tryz.isAgg9
  z9 := Tryz.sizeOf9
  v9 := Tryz.zeroValue9
  t20 := Tryz.underlying20
  a20 := Tryz.isAgg20
  z20 := Tryz.sizeOf20
  v20 := Tryz.zeroValue20
  t31 := Tryz.underlying132
  a31 := Tryz.isAgg132
  z31 := Tryz.sizeOf132
  v31 := Tryz.zeroValue132
  t37 := Tryz.underlying93
  a37 := Tryz.isAgg93
  z37 := Tryz.sizeOf93
  v37 := Tryz.zeroValue93
  t70 := Tryz.underlying92
  a70 := Tryz.isAgg92
  z70 := Tryz.sizeOf92
  v70 := Tryz.zeroValue92
  t72 := Tryz.underlying95
  a72 := Tryz.isAgg95
  z72 := Tryz.sizeOf95
  v72 := Tryz.zeroValue95
  t75 := Tryz.underlying97
  a75 := Tryz.isAgg97
  z75 := Tryz.sizeOf97
  v75 := Tryz.zeroValue97
  t76 := Tryz.underlying98
  a76 := Tryz.isAgg98
  z76 := Tryz.sizeOf98
  v76 := Tryz.zeroValue98
  t127 := Tryz.underlying203
  a127 := Tryz.isAgg203
  z127 := Tryz.sizeOf203
  v127 := Tryz.zeroValue203
  t164 := Tryz.underlying258
  a164 := Tryz.isAgg258
  z164 := Tryz.sizeOf258
  v164 := Tryz.zeroValue258 }
theorem joinExtra : Builder.Extra Tryz.prog joinRen := {
  sizeBuilder := by kernel_rfl
  liesBuilder := by kernel_rfl
  t5 := Tryz.underlying5
  a5 := Tryz.isAgg5
  z5 := Tryz.sizeOf5
  v5 := Tryz.zeroValue5
  infoByte := by kernel_rfl
  cellsByte := by kernel_rfl
  sizeByte := by kernel_rfl
  neB5 := by decide }
theorem strings_Join_none (a : Option Addr) (c : Nat) (sep : ByteArray) (w : World) :
    Calls Tryz.prog 74 #[.slice a 0 c, .string sep] w fun e w' => e = .returned (.string ⟨#[]⟩) ∧ w' = w := Any.strings_Join_none joinLays joinExtra a c sep w
theorem strings_Join (bk o c : Nat) (xs : List ByteArray) (sep : ByteArray) (w : World) (hcells : ∀ (j : Nat) x, xs[j]? = some x → w.cell? ⟨bk, o + j, none⟩ = some (.string x)) (hbk : bk < w.heap.size) (hN : xs.length ≤ 140737488355328) (hcap : xs.length ≤ c) (hlen : (Lib.join (xs.map (·.data.toList)) sep.data.toList).length ≤ 140737488355328) :
    Calls Tryz.prog 74 #[.slice (some ⟨bk, o, none⟩) xs.length c, .string sep] w fun e w' => e = .returned (.string ⟨(Lib.join (xs.map (·.data.toList)) sep.data.toList).toArray⟩) ∧ Below w.heap.size w w' := Any.strings_Join joinLays joinExtra bk o c xs sep w hcells hbk hN hcap hlen
end Go.Proofs.YtkgnmddakiagbaaGreatDoor
