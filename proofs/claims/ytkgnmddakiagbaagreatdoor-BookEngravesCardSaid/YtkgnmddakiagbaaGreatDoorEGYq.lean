/- What a system lacks of a piece: the program, over trees. -/
import Derived.Test.YtkgnmddakiagbaaGreatDoorNtQYq
import Derived.Test.YtkgnmddakiagbaaGreatDoorLk1Yq
import Derived.Test.YtkgnmddakiagbaaGreatDoorLk2Yq
import Derived.Test.YtkgnmddakiagbaaGreatDoorLk3Yq
import Derived.Test.YtkgnmddakiagbaaGreatDoorLk4Yq
set_option linter.unusedVariables false
set_option linter.unusedSimpArgs false
namespace Go.Proofs.YtkgnmddakiagbaaGreatDoor
open Go.RowKit
set_option maxHeartbeats 4000000
set_option maxRecDepth 100000
def eNt (x : Nt) : List AV := [.sc (.int .i64 x.1), .sc (.int .i64 x.2.1), .sc (.int .i64 x.2.2.1), .sc (.int .i64 x.2.2.2.1), .sc (.int .i64 x.2.2.2.2)]
def eRing (r : List Int) : List AV := (List.range 15).map fun c => .sc (.int .i64 (r.getD c 0))
theorem eRing_at {r : List Int} {c : Nat} (h : c < 15) : (eRing r)[c]? = some (.sc (.int .i64 (r.getD c 0))) := by
  unfold eRing
  rw [List.getElem?_map, List.getElem?_range h]; rfl
theorem eRing_len (r : List Int) : (eRing r).length = 15 := by unfold eRing; simp
theorem eRing_set {r : List Int} {c : Nat} {v : Int} (hc : c < r.length) : (eRing r).set c (.sc (.int .i64 v)) = eRing (r.set c v) := by
  unfold eRing
  apply List.ext_getElem (by simp)
  intro i h1 h2
  have hi : i < 15 := by simpa using h2
  rw [List.getElem_set]
  simp only [List.getElem_map, List.getElem_range, List.getD_eq_getElem?_getD, List.getElem?_set]
  by_cases e : c = i
  · subst e; simp [hc]
  · simp [e]
theorem eNt_set {l : List Nt} {k : Nat} {n : Nt} (t : Int) (h : l[k]? = some n) : (l.map eNt).set k (putL 4 [.sc (.int .i64 t)] (eNt n)) = (setTo l k t).map eNt := by
  unfold setTo
  rw [h]
  simp only [List.map_set]
  rfl
structure NsOk (s : NS) : Prop where
  len : s.ring.length = 15
  rng : ∀ c, 0 ≤ s.ring.getD c 0 ∧ s.ring.getD c 0 ≤ s.out.length
  big : s.out.length ≤ 10000
theorem setTo_len (l : List Nt) (k : Nat) (t : Int) : (setTo l k t).length = l.length := by unfold setTo; split <;> simp
theorem stopN_ok {s : NS} (h : NsOk s) (c : Nat) (t : Int) : NsOk (stopN c t s) ∧ (stopN c t s).out.length = s.out.length := by
  unfold stopN
  split
  · refine ⟨⟨by simpa using h.len, fun q => ?_, by rw [setTo_len]; exact h.big⟩, setTo_len _ _ _⟩
    have := h.rng q
    simp only [setTo_len, List.getD_eq_getElem?_getD] at this ⊢
    by_cases e : c = q
    · subst e
      by_cases hq : c < s.ring.length
      · rw [List.getElem?_set_self hq]; simp
      · rw [List.getElem?_eq_none (by simpa using hq)]; simp
    · rw [List.getElem?_set_ne e]; exact this
  · exact ⟨h, rfl⟩
theorem finMn {P : Program} {C : Cx} {σ : St} {fn : Func} {avs : List AV} {res : AV} {M' : List (Nat × AO)} {nk' : Nat} (h : resL P σ fn.results.toList = some avs) (hp : avs.all (fun av => !ownB av) = true) (e : resT avs = res) (hM : σ.M = M') (hk : σ.nk = nk') : QFinM P fn C res M' nk' .normal σ :=
  ⟨.inl rfl, (finM h hp e hM hk).2⟩
theorem stop_FS (c : Nat) (t : Int) (s : NS) (hc : c < 15) (h : NsOk s) :
    Cto truB 0 Tryz.prog 155 [.sc (.int .i64 c), .sc (.int .i64 t), .pt 0 0 0, .pt 1 0 0]
      [(0, .box 231 (eRing s.ring)), (1, .box 60 [.sl 2]), (2, .row 64 5 (s.out.map eNt))] 3 (.tu [])
      [(0, .box 231 (eRing (stopN c t s).ring)), (1, .box 60 [.sl 2]), (2, .row 64 5 ((stopN c t s).out.map eNt))] 3 := by
  have hl := eRing_len s.ring
  have hrg := h.rng c
  have hlen := h.len
  have hbig := h.big
  have hat := eRing_at (r := s.ring) hc
  have hs0 : stopN c t s = if 0 < s.ring.getD c 0 then ⟨setTo s.out (s.ring.getD c 0 - 1).toNat t, s.ring.set c 0⟩ else s := rfl
  obtain ⟨r, hr⟩ : ∃ r, s.ring.getD c 0 = r := ⟨_, rfl⟩
  rw [hr] at hat hrg hs0
  refine Cto.intro truS Tryz.func155 rfl Tryz.ntmps155 (Nat.le_of_ble_eq_true rfl) rfl fun w0 F0 fp pg hB => ?_
  dsimp only [number, Nat.reduceAdd]
  repeat refine W.go rfl ?_
  refine (?_ : WL _ _ _ _ _ _)
  dsimp only [St.put, Nat.reduceAdd]
  refine WL.idp rfl rfl ⟨by omega, by omega⟩ (show 0 + ((c : Nat) : Int).toNat * 1 = c by simp) ?_
  refine WL.ldx rfl rfl hat rfl ?_
  repeat (first | refine W.go rfl ?_ | refine WL.ev rfl ?_)
  refine (?_ : W _ _ _ _ _)
  dsimp only [St.put, Nat.reduceAdd]
  (refine W.cond rfl (fun hif => ?_) (fun hif => ?_) <;> (try simp only [decide_eq_true_eq, decide_eq_false_iff_not, Int.not_lt, Int.not_le, Bool.not_eq_true', Bool.not_eq_false'] at hif))
  · rw [if_pos hif] at hs0
    rw [hs0]
    have hk : (r - 1).toNat < s.out.length := by omega
    have hn := List.getElem?_eq_getElem hk
    have hrr : (s.out.map eNt)[(r - 1).toNat]? = some (eNt s.out[(r - 1).toNat]) := by rw [List.getElem?_map, hn]; rfl
    repeat (first | refine W.gob rfl ?_ | refine WL.e1 rfl ?_ | refine WL.ar rfl rfl (by unfold I64; omega) ?_ | refine WL.ixs rfl rfl (by first | omega | (simp; done) | (simp; omega)) ?_)
    refine (?_ : WL _ _ _ _ _ _)
    dsimp only [St.put, Nat.reduceAdd]
    refine WL.sto rfl rfl rfl rfl hrr (by show 4 + 1 ≤ 5; omega) ?_
    repeat (first | refine W.gob rfl ?_ | refine WL.nil ?_ | refine WL.e1 rfl ?_)
    refine (?_ : WL _ _ _ _ _ _)
    dsimp only [St.put, Nat.reduceAdd]
    refine WL.idp rfl rfl ⟨by omega, by omega⟩ (show 0 + ((c : Nat) : Int).toNat * 1 = c by simp) ?_
    refine WL.stx rfl rfl rfl rfl (by rw [hl]; exact hc) ?_
    rw [eRing_set (by omega)]
    dsimp only
    refine WL.tr (σ' := ⟨[], [(0, .box 231 (eRing (s.ring.set c 0))), (1, .box 60 [.sl 2]), (2, .row 64 5 ((setTo s.out (r - 1).toNat t).map eNt))], 3⟩) (Tr.ren (fun q => q) (by repeat (first | exact trivial | refine ⟨⟨?_, ?_⟩, ?_⟩ | rfl)) (by repeat (first | exact trivial | refine ⟨⟨?_, ?_, ?_⟩, ?_⟩ | rfl | exact congrArg (fun q => some (AO.row _ _ q)) (eNt_set t hn))) rfl) ?_
    repeat refine WL.nil ?_
    exact finMn rfl rfl rfl rfl rfl
  · rw [if_neg (by omega)] at hs0
    rw [hs0]
    repeat refine W.go rfl ?_
    exact finMn rfl rfl rfl rfl rfl
end Go.Proofs.YtkgnmddakiagbaaGreatDoor
namespace Go.Proofs.YtkgnmddakiagbaaGreatDoor
open Go.RowKit
def sp (t : List UInt8) : List UInt8 := 32 :: t
def stT (s : Int) (L : Int → Nat) (x : Stp) : List UInt8 := cellS s x.1 x.2.1 x.2.2.1 x.2.2.2.1 x.2.2.2.2 (L x.1)
def stOn (l : List Stp) (c : Int) : Option Stp := l.find? fun x => x.1 == c
def stF (s : Int) (L : Int → Nat) (l : List Stp) (c : Int) : List UInt8 :=
  match stOn l c with
  | some x => stT s L x
  | none => [45]
def asc : Int → List Stp → Prop
  | _, [] => True
  | m, x :: r => m < x.1 ∧ asc x.1 r
theorem asc_of {p : Pce} {i : Int} : ∀ {l : List Stp} {last : Int}, stopsE p i last l = 0 → asc last l
  | [], _, _ => trivial
  | x :: r, last, h => by
    unfold stopsE at h
    by_cases h1 : stopE p i x last ≠ 0
    · rw [if_pos h1] at h; exact absurd h h1
    · rw [if_neg h1] at h
      refine ⟨?_, asc_of h⟩
      by_cases h2 : last < x.1
      · exact h2
      · exfalso; apply h1
        unfold stopE
        split
        · decide
        · split
          · decide
          · rw [if_pos (by omega)]; decide
theorem asc_lt : ∀ {l : List Stp} {m : Int}, asc m l → ∀ x ∈ l, m < x.1
  | y :: r, m, h, x, hx => by
    rcases List.mem_cons.1 hx with rfl | hx
    · exact h.1
    · have := asc_lt h.2 x hx; have := h.1; omega
theorem asc_take {l : List Stp} : ∀ {m : Int} (k : Nat) (h : k < l.length), asc m l → ∀ x ∈ l.take k, x.1 < l[k].1 := by
  induction l with
  | nil => intro m k h; simp at h
  | cons y r ih =>
    intro m k h ha x hx
    cases k with
    | zero => simp at hx
    | succ k =>
      simp only [List.take_succ_cons, List.mem_cons] at hx
      rcases hx with rfl | hx
      · exact asc_lt ha.2 _ (by simp)
      · simpa using ih k (by simpa using h) ha.2 x hx
theorem stOn_none {l : List Stp} {c : Int} (h : ∀ x ∈ l, x.1 ≠ c) : stOn l c = none := by
  unfold stOn
  rw [List.find?_eq_none]
  intro x hx
  simpa using h x hx
theorem stOn_snoc (l : List Stp) (x : Stp) (c : Int) (h : ∀ y ∈ l, y.1 < x.1) : stOn (l ++ [x]) c = if c = x.1 then some x else stOn l c := by
  by_cases e : c = x.1
  · rw [if_pos e]
    have h0 : stOn l c = none := stOn_none fun y hy => by have := h y hy; omega
    unfold stOn at h0 ⊢
    rw [List.find?_append, h0]
    simp [e]
  · rw [if_neg e]
    unfold stOn
    rw [List.find?_append]
    have : [x].find? (fun y => y.1 == c) = none := by simp; omega
    rw [this, Option.or_none]
theorem stF_snoc (s : Int) (L : Int → Nat) (l : List Stp) (x : Stp) (c : Int) (h : ∀ y ∈ l, y.1 < x.1) : stF s L (l ++ [x]) c = if c = x.1 then stT s L x else stF s L l c := by
  unfold stF
  rw [stOn_snoc l x c h]
  by_cases e : c = x.1
  · rw [if_pos e, if_pos e]
  · rw [if_neg e, if_neg e]
def cAt (s : Int) (n j : Nat) : Int := if s = 2 then (n : Int) - j else (j : Int) + 1
def staffL (s : Int) (L : Int → Nat) (n : Nat) (l : List Stp) : List (List UInt8) := (List.range n).map fun j => stF s L l (cAt s n j)
theorem staffL_nil (s : Int) (L : Int → Nat) (n : Nat) : staffL s L n [] = List.replicate n [45] := by
  unfold staffL
  apply List.ext_getElem
  · simp
  · intro i h1 h2; simp [stF, stOn]
theorem staffL_snoc (s : Int) (L : Int → Nat) (n : Nat) (l : List Stp) (x : Stp) (hs : s ≠ 4) (h : ∀ y ∈ l, y.1 < x.1) (h1 : 1 ≤ x.1) (hn : x.1 ≤ n) : staffL s L n (l ++ [x]) = (staffL s L n l).set (lineV s x.1 n - 1).toNat (stT s L x) := by
  apply List.ext_getElem
  · simp [staffL]
  · intro j h2 h3
    have hj : j < n := by simpa [staffL] using h2
    rw [List.getElem_set]
    simp only [staffL, List.getElem_map, List.getElem_range]
    rw [stF_snoc s L l x _ h]
    have e : cAt s n j = x.1 ↔ (lineV s x.1 n - 1).toNat = j := by
      unfold cAt lineV
      rw [if_neg hs]
      by_cases e2 : s = 2
      · rw [if_pos e2, if_pos e2]; omega
      · rw [if_neg e2, if_neg e2]; omega
    by_cases e3 : cAt s n j = x.1
    · rw [if_pos e3, if_pos (e.1 e3)]
    · rw [if_neg e3, if_neg (fun q => e3 (e.2 q))]
def outL (s : Int) (L : Int → Nat) (n : Nat) (l : List Stp) : List (List UInt8) :=
  if s = 2 then ((l.filter fun x => decide ((n : Int) < x.1)).map (stT s L)).reverse else (l.filter fun x => decide ((n : Int) < x.1)).map (stT s L)
theorem outL_in (s : Int) (L : Int → Nat) (n : Nat) (l : List Stp) (x : Stp) (h : x.1 ≤ n) : outL s L n (l ++ [x]) = outL s L n l := by
  unfold outL
  have : [x].filter (fun x => decide ((n : Int) < x.1)) = [] := by simp; omega
  rw [List.filter_append, this, List.append_nil]
theorem outL_out (s : Int) (L : Int → Nat) (n : Nat) (l : List Stp) (x : Stp) (h : ¬ x.1 ≤ n) : outL s L n (l ++ [x]) = if s = 2 then stT s L x :: outL s L n l else outL s L n l ++ [stT s L x] := by
  unfold outL
  have : [x].filter (fun x => decide ((n : Int) < x.1)) = [x] := by simp; omega
  rw [List.filter_append, this]
  by_cases e : s = 2
  · rw [if_pos e, if_pos e, if_pos e]; simp
  · rw [if_neg e, if_neg e, if_neg e]; simp
theorem outL_len (s : Int) (L : Int → Nat) (n : Nat) (l : List Stp) : (outL s L n l).length ≤ l.length := by
  unfold outL
  split
  · simp; exact List.length_filter_le _ _
  · simp; exact List.length_filter_le _ _
def headW (s : Int) (e : Ev) : List (List UInt8) := if e.bar = true then [[124], tW e.val (sgI e.dot e.three)] else [tW e.val (sgI e.dot e.three)]
def staffN (s : Int) (p : Pce) : Nat := if s = 4 then 0 else min p.cs.length 6
def colW (s : Int) (p : Pce) (i : Int) (e : Ev) : List (List UInt8) :=
  headW s e ++ (if e.tie = true then [[126]] else if e.stops.length = 0 then [[37]] else
    if s = 2 then outL s (fun c => longestN p.evs i c) (staffN s p) e.stops ++ staffL s (fun c => longestN p.evs i c) (staffN s p) e.stops
    else staffL s (fun c => longestN p.evs i c) (staffN s p) e.stops ++ outL s (fun c => longestN p.evs i c) (staffN s p) e.stops)
def spW (l : List (List UInt8)) : List UInt8 := l.flatMap sp
def joinW : List (List UInt8) → List UInt8
  | [] => []
  | x :: r => x ++ spW r
theorem joinW_lib (l : List (List UInt8)) : Lib.join l [32] = joinW l := by
  cases l with
  | nil => rfl
  | cons x r =>
    rw [Lib.join_cons]
    show x ++ Lib.joinTail [32] r = x ++ r.flatMap sp
    unfold Lib.joinTail
    rw [List.flatMap_def]; rfl
def colS (s : Int) (p : Pce) (i : Int) (e : Ev) : List UInt8 := joinW (colW s p i e)
/-! The reference goes over the courses. -/
theorem stOn_eq {l : List Stp} {c : Int} {x : Stp} (h : stOn l c = some x) : x ∈ l ∧ x.1 = c := by
  unfold stOn at h
  exact ⟨List.mem_of_find?_eq_some h, by simpa using List.find?_some h⟩
/-! Lengths; no cell is a dash. -/
theorem cellS_len (s c f r g h L : Int) (hs : 1 ≤ s ∧ s ≤ 4) (hc : 1 ≤ c ∧ c ≤ 14) (hf : 0 ≤ f ∧ f ≤ 18) : (cellS s c f r g h L).length ≤ 12 := by
  unfold cellS
  have h1 := (pS_len s c f hs hc hf).1
  have h2 := rR_len s r
  have h3 := rG_len s g
  have h4 := pH_len s h L
  simp only [List.length_append]; omega
theorem spW_len {n : Nat} : ∀ {l : List (List UInt8)}, (∀ t ∈ l, t.length ≤ n) → (spW l).length ≤ (n + 1) * l.length
  | [], _ => by simp [spW]
  | x :: r, h => by
    have h1 := spW_len (l := r) fun t ht => h t (by simp [ht])
    have h2 := h x (by simp)
    unfold spW at h1 ⊢
    rw [List.flatMap_cons, List.length_append, List.length_cons, Nat.mul_succ]
    have : (sp x).length = x.length + 1 := by simp [sp]
    omega
end Go.Proofs.YtkgnmddakiagbaaGreatDoor
namespace Go.Proofs.YtkgnmddakiagbaaGreatDoor
open Go.RowKit
set_option maxRecDepth 100000
set_option maxHeartbeats 4000000
theorem Tr.nilLs {C : Cx} {σ : St} {t : Tmp} (n : Nat) (h : look t σ.t = some (.sc (.slice none 0 0))) : Tr C σ (σ.put t (.ls n [])) := fun G a w ok => by
  refine ⟨G, ok.sz, ok.df, fun i av hi => ?_, ok.bel, ok.fw, ok.f0, ok.f1, ok.ob, ok.my, ok.dj, ok.dF⟩
  by_cases e : i = t
  · subst e
    rw [show look i (σ.put i (.ls n [])).t = some (.ls n []) from look_set_same] at hi
    cases hi
    obtain ⟨h1, h2, h3⟩ := ok.tm i _ h
    refine ⟨h1, .ls _ _, ?_⟩
    rw [h3.sc_eq]
    exact .pu _ _ (.ls n [] none 0 ⟨0, 0, none⟩ (fun _ _ => undef) (by simp) (by simp) (fun h => absurd h (by simp)) (fun i r j av h => by simp at h) (fun i r j av h => by simp at h))
  · rw [show look i (σ.put t (.ls n [])).t = look i σ.t from look_set_other e] at hi
    exact ok.tm i av hi
theorem args_pc {F : View} {w : World} {p : Pce} {pre post : List AV} {xs ys vs : List Value} (hs : scs pre = some xs) (hs2 : scs post = some ys) (hF : ∀ p u, F p = some u → w.cell? p = some u)
    (hR : vs.length = (pre ++ ePce p :: post).length ∧ ∀ (i : Nat) av u, (pre ++ ePce p :: post)[i]? = some av → vs[i]? = some u → RP F av u) : ∃ M, PcAt w w.heap.size M p ∧ vs = xs ++ pcValue M p :: ys := by
  have hG : ∀ i av u, (pre ++ ePce p :: post)[i]? = some av → vs[i]? = some u → R ⟨F, fun _ => 0, fun _ => 0, fun _ => undef, fun _ _ => False⟩ av u := fun i av u a b => .pu _ _ (hR.2 i av u a b)
  have hlen : vs.length = pre.length + (post.length + 1) := by rw [hR.1]; simp
  have e1 : vs.take pre.length = xs := scs_of hs (by simp; omega) fun i av u a b => by
    have hi : i < pre.length := (List.getElem?_eq_some_iff.1 a).1
    rw [List.getElem?_take_of_lt hi] at b
    exact hG i av u (by rw [List.getElem?_append_left hi]; exact a) b
  have e2 : vs.drop (pre.length + 1) = ys := scs_of hs2 (by simp; omega) fun i av u a b => by
    rw [List.getElem?_drop] at b
    exact hG (pre.length + 1 + i) av u (by rw [List.getElem?_append_right (by omega), show pre.length + 1 + i - pre.length = i + 1 by omega]; exact a) b
  have hp : vs[pre.length]? = some (vs[pre.length]'(by omega)) := List.getElem?_eq_getElem (by omega)
  obtain ⟨M, eM, hM⟩ := pc_of_rp hF (hR.2 pre.length _ _ (by rw [List.getElem?_append_right (Nat.le_refl _), Nat.sub_self]; rfl) hp)
  refine ⟨M, hM, ?_⟩
  rw [← e1, ← e2, ← eM]
  conv => lhs; rw [← List.take_append_drop pre.length vs]
  congr 1
  rw [List.drop_eq_getElem_cons (by omega)]
theorem eLk_of (x : Lck) (j : Nat) (av : AV) (h : (eLk x)[j]? = some av) : ∃ u, av = .sc u ∧ (lckCells x)[j]? = some u ∧ u.oneCell' = true := by
  match j with
  | 0 => cases h; exact ⟨_, rfl, rfl, rfl⟩
  | 1 => cases h; exact ⟨_, rfl, rfl, rfl⟩
  | 2 => cases h; exact ⟨_, rfl, rfl, rfl⟩
  | j + 3 => simp [eLk] at h
theorem Ctr.of_lk {P : Program} {f : FuncId} {p : Pce} {pre post : List AV} {xs ys : List Value} {l : List Lck} (hs : scs pre = some xs) (hs2 : scs post = some ys)
    (h : ∀ w M, PcAt w w.heap.size M p → Calls P f (xs ++ pcValue M p :: ys).toArray w (LkPost l w)) : Ctr P f (pre ++ ePce p :: post) (.ls 3 (l.map eLk)) := by
  intro w F vs hF hR
  obtain ⟨M, hM, rfl⟩ := args_pc hs hs2 hF hR
  refine (h w M hM).mono fun e w' ⟨A, d, he, hb, hr, hA, hc⟩ => ⟨_, newF F w w', he, hb, newF_le hF, newF_fw hF hb, newF_new, rp_of_rd hr hA hc (fun _ => rfl) eLk_of⟩
def sysV (s : Int) : Value := if s = 1 then .iface 187 (.agg #[]) else if s = 2 then .iface 191 (.agg #[]) else if s = 3 then .iface 193 (.agg #[]) else if s = 4 then .iface 195 (.agg #[]) else .nilIface
theorem sys_cases {s : Int} (h : 1 ≤ s ∧ s ≤ 4) : s = 1 ∨ s = 2 ∨ s = 3 ∨ s = 4 := by omega
theorem of_FS (s : Int) : Ctr Tryz.prog 44 [.sc (.int .u8 s)] (.tu [.sc (sysV s), .sc (.bool (decide (1 ≤ s ∧ s ≤ 4)))]) := by
  refine Ctr.of_sc (xs := [.int .u8 s]) (v := .tuple #[sysV s, .bool (decide (1 ≤ s ∧ s ≤ 4))]) rfl (fun F => .tu _ _ rfl fun i av u a b => ?_) fun w => ?_
  · match i with
    | 0 => cases a; cases b; exact .sc _
    | 1 => cases a; cases b; exact .sc _
    | i + 2 => simp at a
  · by_cases h : 1 ≤ s ∧ s ≤ 4
    · rcases sys_cases h with rfl | rfl | rfl | rfl
      · exact (of_1 w).mono fun e w' ⟨he, hw⟩ => ⟨he, hw ▸ Below.refl _ _⟩
      · exact (of_2 w).mono fun e w' ⟨he, hw⟩ => ⟨he, hw ▸ Below.refl _ _⟩
      · exact (of_3 w).mono fun e w' ⟨he, hw⟩ => ⟨he, hw ▸ Below.refl _ _⟩
      · exact (of_4 w).mono fun e w' ⟨he, hw⟩ => ⟨he, hw ▸ Below.refl _ _⟩
    · have e : sysV s = .nilIface := by
        unfold sysV
        rw [if_neg (by omega), if_neg (by omega), if_neg (by omega), if_neg (by omega)]
      rw [e, decide_eq_false h]
      exact (of_bad s w (by omega)).mono fun e w' ⟨he, hw⟩ => ⟨he, hw ▸ Below.refl _ _⟩
theorem plack_FS (s : Int) (h : 1 ≤ s ∧ s ≤ 4) (p : Pce) (i : Nat) (hi : i < p.evs.length) (hO : PcOk p) (hv : StopsIn p.evs[i]) :
    Ctr Tryz.prog 145 [.sc (sysV s), ePce p, .sc (.int .i64 i)] (.ls 3 ((lackE s p i p.evs[i]).map eLk)) := by
  rcases sys_cases h with rfl | rfl | rfl | rfl
  · exact Ctr.of_lk (pre := [.sc (sysV 1)]) (post := [.sc (.int .i64 i)]) rfl rfl fun w M hM => plack_1 M p i hi w hM hO hv
  · exact Ctr.of_lk (pre := [.sc (sysV 2)]) (post := [.sc (.int .i64 i)]) rfl rfl fun w M hM => plack_2 M p i hi w hM hO hv
  · exact Ctr.of_lk (pre := [.sc (sysV 3)]) (post := [.sc (.int .i64 i)]) rfl rfl fun w M hM => plack_3 M p i hi w hM hO hv
  · exact Ctr.of_lk (pre := [.sc (sysV 4)]) (post := [.sc (.int .i64 i)]) rfl rfl fun w M hM => plack_4 M p i hi w hM hO hv
theorem pCheck_FS (p : Pce) (hO : PcOk p) : Ctr Tryz.prog 45 [ePce p] (.sc (.int .i64 (pceE p))) :=
  Ctr.of_pc (pre := []) (post := []) rfl rfl (fun _ => .sc _) fun w M hM => pCheck_any M p w hM hO
def lksR (s : Int) (p : Pce) : List Lck := if (1 ≤ s ∧ s ≤ 4) ∧ pceE p = 0 then lksTo s p p.evs.length else []
def lksE (s : Int) (p : Pce) : Int := if 1 ≤ s ∧ s ≤ 4 then pceE p else 30
theorem lks_bad {s : Int} {p : Pce} (h : ¬ (1 ≤ s ∧ s ≤ 4)) : lksR s p = [] ∧ lksE s p = 30 := ⟨if_neg fun x => h x.1, if_neg h⟩
theorem lks_err {s : Int} {p : Pce} (h : 1 ≤ s ∧ s ≤ 4) (h2 : pceE p ≠ 0) : lksR s p = [] ∧ lksE s p = pceE p := ⟨if_neg fun x => h2 x.2, if_pos h⟩
theorem lks_ok {s : Int} {p : Pce} (h : 1 ≤ s ∧ s ≤ 4) (h2 : pceE p = 0) : lksR s p = lksTo s p p.evs.length ∧ lksE s p = 0 := ⟨if_pos ⟨h, h2⟩, by rw [← h2]; exact if_pos h⟩
theorem pLacks_FS (s : Int) (p : Pce) (hO : PcOk p) : Ctr Tryz.prog 119 [.sc (.int .u8 s), ePce p] (.tu [.ls 3 ((lksR s p).map eLk), .sc (.int .i64 (lksE s p))]) := by
  refine Ctr.intro Tryz.func119 rfl Tryz.ntmps119 (Nat.le_of_ble_eq_true rfl) (bd_all rfl) fun w0 F0 => ?_; dsimp only [St.init, number, Nat.reduceAdd]
  have hn3 := hO.n3
  repeat refine W.go rfl ?_
  refine (?_ : WL _ _ _ _ _ _)
  dsimp only [St.put, Nat.reduceAdd]
  refine WL.vl rfl (WV.call rfl (callF Tryz.func44 rfl rfl) rfl rfl (of_FS s)) ?_
  repeat (first | refine W.go rfl ?_ | refine WL.ev rfl ?_)
  refine (?_ : W _ _ _ _ _)
  dsimp only [St.put, Nat.reduceAdd]
  (refine W.cond rfl (fun hif => ?_) (fun hif => ?_) <;> (try simp only [decide_eq_true_eq, decide_eq_false_iff_not, Int.not_lt, Int.not_le, Bool.not_eq_true', Bool.not_eq_false'] at hif))
  · have hs : ¬ (1 ≤ s ∧ s ≤ 4) := by simpa using hif
    rw [(lks_bad hs).1, (lks_bad hs).2]
    repeat refine W.go rfl ?_
    refine (?_ : W _ _ _ _ _)
    refine W.tr (Tr.nilLs (t := 4) 3 rfl) ?_
    exact W.ret (fin2 rfl rfl rfl rfl rfl rfl rfl)
  have hs : 1 ≤ s ∧ s ≤ 4 := by simpa using hif
  repeat refine W.go rfl ?_
  refine (?_ : WL _ _ _ _ _ _)
  refine WL.vl rfl (WV.call rfl (callF Tryz.func45 rfl rfl) rfl rfl (pCheck_FS p hO)) ?_
  repeat (first | refine W.go rfl ?_ | refine WL.ev rfl ?_)
  refine (?_ : W _ _ _ _ _)
  dsimp only [St.put, Nat.reduceAdd]
  (refine W.cond rfl (fun hif => ?_) (fun hif => ?_) <;> (try simp only [decide_eq_true_eq, decide_eq_false_iff_not, Int.not_lt, Int.not_le, Bool.not_eq_true', Bool.not_eq_false'] at hif))
  · have h0 : pceE p ≠ 0 := by simpa using hif
    rw [(lks_err hs h0).1, (lks_err hs h0).2]
    repeat refine W.go rfl ?_
    refine (?_ : W _ _ _ _ _)
    dsimp only [St.put, Nat.reduceAdd]
    refine W.tr (Tr.nilLs (t := 4) 3 rfl) ?_
    exact W.ret (fin2 rfl rfl rfl rfl rfl rfl rfl)
  have h0 : pceE p = 0 := by simpa using hif
  rw [(lks_ok hs h0).1, (lks_ok hs h0).2]
  repeat (first | refine W.go rfl ?_ | refine WL.ev rfl ?_ | refine WL.len rfl rfl (by first | exact List.length_map _ | exact List.length_replicate | rfl) ?_)
  refine (?_ : W _ _ _ _ _)
  dsimp only [St.put, Nat.reduceAdd]
  refine W.tr (Tr.nil (t := 9) 262 3 rfl rfl) ?_
  refine W.loop (fun k : Nat => k ≤ p.evs.length) (fun k => ⟨[(3, .pt 0 0 0), (6, .sc (sysV s)), (9, .sl 1), (25, .sc (.int .i64 p.evs.length)), (26, .sc (.int .i64 k))], [(0, .box 29 (ePce p).cells), (1, .row 262 3 ((lksTo s p k).map eLk))], 2⟩) (fun k => p.evs.length - k) 0 (by omega) (Tr.ren id (by repeat (first | exact trivial | refine ⟨⟨?_, ?_⟩, ?_⟩ | rfl)) (by repeat (first | exact trivial | refine ⟨⟨?_, ?_, ?_⟩, ?_⟩ | rfl)) rfl) fun k hk => ?_
  repeat refine W.go rfl ?_
  refine (?_ : W _ _ _ _ _)
  (refine W.cond rfl (fun hif => ?_) (fun hif => ?_) <;> (try simp only [decide_eq_true_eq, decide_eq_false_iff_not, Int.not_lt, Int.not_le, Bool.not_eq_true', Bool.not_eq_false'] at hif))
  · have hk2 : k < p.evs.length := by omega
    have hl1 := lksTo_len s hO k hk
    have hl2 := lackE_len s p k p.evs[k] (hO.n4 k hk2)
    have hrow : (lksTo s p k).map eLk ++ (lackE s p k p.evs[k]).map eLk = (lksTo s p (k + 1)).map eLk := by rw [lksTo_at s p hk2, List.map_append]
    repeat refine W.go rfl ?_
    refine (?_ : WL _ _ _ _ _ _)
    dsimp only [St.put, Nat.reduceAdd]
    refine WL.vl rfl (WV.call rfl (callF Tryz.func145 rfl rfl) rfl rfl (plack_FS s hs p k hk2 hO (stopsIn_of h0 k hk2))) ?_
    repeat (first | refine W.go rfl ?_ | refine WL.ev rfl ?_ | refine WL.ar rfl rfl (by unfold I64; omega) ?_ | refine WL.app rfl rfl rfl (by first | omega | (simp; done) | (simp; omega)) ?_)
    dsimp only [St.put, Nat.reduceAdd]
    exact ⟨k + 1, by omega, by omega, Tr.ren (fun q => bif Nat.beq q 1 then 2 else q) (by repeat (first | exact trivial | refine ⟨⟨?_, ?_⟩, ?_⟩ | rfl)) (by repeat (first | exact trivial | refine ⟨⟨?_, ?_, ?_⟩, ?_⟩ | exact congrArg (fun r => some (AO.row _ _ r)) hrow | rfl)) rfl⟩
  · have he : k = p.evs.length := by omega
    subst he
    repeat refine W.go rfl ?_
    refine (?_ : W _ _ _ _ _)
    dsimp only [St.put, Nat.reduceAdd]
    refine W.tr (Tr.freeze 1 rfl) ?_
    exact W.ret (fin2 rfl rfl rfl rfl rfl rfl rfl)
theorem pCan_FS (s : Int) (p : Pce) (hO : PcOk p) : Ctr Tryz.prog 46 [.sc (.int .u8 s), ePce p] (.sc (.bool (lksE s p == 0 && ((lksR s p).length : Int) == 0))) := by
  refine Ctr.intro Tryz.func46 rfl Tryz.ntmps46 (Nat.le_of_ble_eq_true rfl) (bd_all rfl) fun w0 F0 => ?_; dsimp only [St.init, number, Nat.reduceAdd]
  repeat refine W.go rfl ?_
  refine (?_ : WL _ _ _ _ _ _)
  dsimp only [St.put, Nat.reduceAdd]
  refine WL.vl rfl (WV.call rfl (callF Tryz.func119 rfl rfl) rfl rfl (pLacks_FS s p hO)) ?_
  repeat (first | refine W.go rfl ?_ | refine WL.ev rfl ?_)
  refine (?_ : WL _ _ _ _ _ _)
  dsimp only [St.put, Nat.reduceAdd]
  have hl : (lksR s p).length ≤ 27000 := by
    unfold lksR
    split
    · exact lksTo_len s hO _ (Nat.le_refl _)
    · simp
  refine WL.partG rfl rfl rfl rfl (fun hp => ?_) (fun hp => ?_)
  · have e : lksE s p = 0 := of_decide_eq_true hp
    repeat (first | refine WL.ev rfl ?_ | refine WL.gyes rfl rfl rfl rfl ?_ | refine WL.len rfl rfl (by first | exact List.length_map _ | exact List.length_replicate | rfl) ?_)
    refine (?_ : W _ _ _ _ _)
    dsimp only [St.put, Nat.reduceAdd]
    refine W.ret (fin1 rfl rfl (sc_bool ?_) rfl)
    rw [e]; rfl
  · have e : lksE s p ≠ 0 := of_decide_eq_false hp
    repeat (first | refine WL.ev rfl ?_ | refine WL.opno rfl rfl rfl rfl rfl rfl rfl ?_)
    refine (?_ : W _ _ _ _ _)
    dsimp only [St.put, Nat.reduceAdd]
    refine W.ret (fin1 rfl rfl (sc_bool ?_) rfl)
    rw [show (lksE s p == 0) = false by simpa using e]; rfl
end Go.Proofs.YtkgnmddakiagbaaGreatDoor
