/- Apply of the program. -/
import Derived.Test.YtgelfflighgajaaGreatDoorApPAq
set_option linter.unusedVariables false
set_option linter.unusedSimpArgs false
namespace Go.Proofs.YtgelfflighgajaaGreatDoor
open Go.RowKit
set_option maxHeartbeats 8000000
set_option maxRecDepth 100000
theorem pApply_bad (a:Pce) (hO:PcOk a) (l:List Va) (h0:pceE a≠0):Ctr Tryz.prog 16 [ePce a,.ls 8 (l.map eVa)] (.tu [ePce (apP a l),.sc (.int .i64 (apX a l))]):=by
 have hP:=pPlain_FS a hO
 rw [(apX_bad h0).1,(apX_bad h0).2]
 obtain ⟨E,hE⟩:∃ E,pceE a=E:=⟨_,rfl⟩
 rw [hE] at hP h0 ⊢
 obtain ⟨Z,hZ⟩:∃ Z,plP a=Z:=⟨_,rfl⟩
 rw [hZ] at hP
 refine Ctr.intro Tryz.func16 rfl Tryz.ntmps16 (Nat.le_of_ble_eq_true rfl) (bd_all rfl) fun w0 F0=>?_;dsimp only [St.init,number,Nat.reduceAdd]
 repeat refine W.go rfl ?_
 refine (?_:WL _ _ _ _ _ _)
 dsimp only [St.put,Nat.reduceAdd]
 refine WL.vl rfl (WV.call rfl (callF Tryz.func40 rfl rfl) rfl rfl hP) ?_
 repeat (first|refine W.gob rfl ?_|refine WL.nil ?_|refine WL.nt rfl rfl rfl (by omega) ?_|refine WL.e1 rfl ?_|refine W.condT rfl ?_)
 refine (?_:W _ _ _ _ _)
 dsimp only [St.put,Nat.reduceAdd]
 refine W.tr (Tr.nilC 1 0 3 rfl rfl rfl) ?_
 refine W.tr (Tr.nilC 1 1 1 rfl rfl rfl) ?_
 refine W.tr (Tr.nilC 1 2 6 rfl rfl rfl) ?_
 exact W.ret (finN rfl rfl rfl rfl)
theorem pApply_FS (a : Pce) (hO : PcOk a) (h60 : a.evs.length ≤ 60) (l : List Va) (hl : VaLs l) : Ctr Tryz.prog 16 [ePce a, .ls 8 (l.map eVa)] (.tu [ePce (apP a l), .sc (.int .i64 (apX a l))]) := by
  by_cases h0 : pceE a = 0
  rotate_left
  · exact pApply_bad a hO l h0
  have hP := pPlain_FS a hO
  have e1 : plP a = ⟨a.cs, a.st, plE a⟩ := if_pos h0
  have hpl := plE_length a
  have hOk := apO_ok hO h60 hl
  have hln := hl.n
  rw [e1, h0] at hP
  have hNo : ∀ k, k < l.length → vaOk l a.evs.length k = false → apX a l = 111 ∧ apP a l = noP := fun k h1 h2 => apX_no h0 (fitV_no h1 h2)
  have hYes : (∀ k, k < l.length → vaOk l a.evs.length k = true) → apX a l = pceE (apO a l) := fun h => apX_ok h0 (fitV_yes h)
  have hAP : apP a l = if apX a l = 0 then apO a l else noP := rfl
  obtain ⟨AO_, hAO⟩ : ∃ z, apO a l = z := ⟨_, rfl⟩
  have hAO2 : AO_ = ⟨a.cs, a.st, apvE (plE a) l⟩ := by rw [← hAO]; rfl
  rw [hAO] at hOk hYes hAP
  have hCk := pCheck_FS AO_ hOk
  obtain ⟨X, hX⟩ : ∃ z, apX a l = z := ⟨_, rfl⟩
  obtain ⟨Y, hY⟩ : ∃ z, apP a l = z := ⟨_, rfl⟩
  rw [hX] at hNo hYes hAP ⊢
  rw [hY] at hNo hAP ⊢
  obtain ⟨PE, hPE⟩ : ∃ z, plE a = z := ⟨_, rfl⟩
  rw [hPE] at hP hpl hAO2
  obtain ⟨LL, hLL⟩ : ∃ z, l.map eVa = z := ⟨_, rfl⟩
  have hLLl : LL.length = l.length := by rw [← hLL, List.length_map]
  have hLat : ∀ (z : Int) (k : Nat) (hk : k < l.length), z.toNat = k → LL[z.toNat]? = some (eVa l[k]) := fun z k hk e => by rw [e, ← hLL]; simp [hk]
  rw [hLL]
  refine Ctr.intro Tryz.func16 rfl Tryz.ntmps16 (Nat.le_of_ble_eq_true rfl) (bd_all rfl) fun w0 F0 => ?_; dsimp only [St.init, number, Nat.reduceAdd]
  repeat refine W.go rfl ?_
  refine (?_ : WL _ _ _ _ _ _)
  dsimp only [St.put, Nat.reduceAdd]
  refine WL.vl rfl (WV.call rfl (callF Tryz.func40 rfl rfl) rfl rfl hP) ?_
  repeat (first | refine W.gob rfl ?_ | refine WL.nil ?_ | refine WL.nf rfl rfl rfl (by omega) ?_ | refine WL.e1 rfl ?_ | refine WL.len rfl rfl (by first | exact List.length_map _ | exact List.length_replicate | rfl) ?_ | refine W.condF rfl ?_)
  refine (?_ : W _ _ _ _ _)
  dsimp only [St.put, Nat.reduceAdd]
  refine W.loop (fun k : Nat => k ≤ l.length ∧ ∀ i, i < k → vaOk l a.evs.length i = true) (fun k => ⟨[(1, .ls 8 LL), (2, .pt 0 0 0), (4, .pt 1 0 0), (24, .ls 8 LL), (25, .sc (.int .i64 LL.length)), (26, .sc (.int .i64 k))], [(0, .box 28 [.ls 3 (a.cs.map eCrs), .ls 1 (a.st.map eInt), .ls 6 (PE.map eEv)]), (1, .box 28 [.sc (.slice none 0 0), .sc (.slice none 0 0), .sc (.slice none 0 0)])], 2⟩) (fun k => l.length - k) 0 ⟨by omega, fun i hi => by omega⟩ (Tr.ren id (by repeat (first | exact trivial | refine ⟨⟨?_, ?_⟩, ?_⟩ | rfl)) (by repeat (first | exact trivial | refine ⟨⟨?_, ?_, ?_⟩, ?_⟩ | rfl)) rfl) fun k hk => ?_
  obtain ⟨hk, hgood⟩ := hk
  by_cases hlt : k < l.length
  · have hat := hLat (k : Nat) k hlt (Int.toNat_natCast k)
    obtain ⟨v, hv⟩ : ∃ v, l[k] = v := ⟨_, rfl⟩
    rw [hv] at hat
    obtain ⟨m, hm⟩ : ∃ m : Int, (if v.kd = 3 then (PE.length : Int) - 1 + 1 else (PE.length : Int) - 1) = m := ⟨_, rfl⟩
    repeat (first | refine W.gob rfl ?_ | refine WL.nil ?_ | refine WL.bt rfl rfl rfl (by omega) ?_ | refine WL.e1 rfl ?_ | refine W.condT rfl ?_)
    refine (?_ : WL _ _ _ _ _ _)
    dsimp only [St.put, Nat.reduceAdd]
    refine WL.idx rfl rfl (by omega) hat ?_
    repeat (first | refine W.gob rfl ?_ | refine WL.nil ?_ | refine WL.e1 rfl ?_ | refine WL.ar rfl rfl (by unfold I64; omega) ?_ | refine WL.len rfl rfl (by first | exact List.length_map _ | exact List.length_replicate | rfl) ?_)
    refine (?_ : W _ _ _ _ _)
    dsimp only [St.put, Nat.reduceAdd]
    refine W.meet ⟨[(7, .sc (.int .i64 k)), (8, .pt 2 0 0), (9, .sc (.int .i64 m)), (1, .ls 8 LL), (2, .pt 0 0 0), (4, .pt 1 0 0), (24, .ls 8 LL), (25, .sc (.int .i64 LL.length)), (26, .sc (.int .i64 k))], [(0, .box 28 [.ls 3 (a.cs.map eCrs), .ls 1 (a.st.map eInt), .ls 6 (PE.map eEv)]), (1, .box 28 [.sc (.slice none 0 0), .sc (.slice none 0 0), .sc (.slice none 0 0)]), (2, .box 38 (eVa v))], 3⟩ ?_ ?_
    · (refine W.cond rfl (fun hif => ?_) (fun hif => ?_) <;> (try simp only [decide_eq_true_eq, decide_eq_false_iff_not, Int.not_lt, Int.not_le, Bool.not_eq_true', Bool.not_eq_false'] at hif))
      · rw [if_pos hif] at hm
        subst hm
        repeat (first | refine W.go rfl ?_ | refine WL.ev rfl ?_ | refine WL.ar rfl rfl (by unfold I64; omega) ?_)
        dsimp only [St.put, Nat.reduceAdd]
        refine (?_ : Tr _ _ _)
        exact (Tr.ren id (by repeat (first | exact trivial | refine ⟨⟨?_, ?_⟩, ?_⟩ | rfl)) (by repeat (first | exact trivial | refine ⟨⟨?_, ?_, ?_⟩, ?_⟩ | rfl)) rfl)
      · rw [if_neg hif] at hm
        subst hm
        repeat refine W.go rfl ?_
        refine (?_ : Tr _ _ _)
        exact (Tr.ren id (by repeat (first | exact trivial | refine ⟨⟨?_, ?_⟩, ?_⟩ | rfl)) (by repeat (first | exact trivial | refine ⟨⟨?_, ?_, ?_⟩, ?_⟩ | rfl)) rfl)
    have hNo2 : ¬ (1 ≤ v.kd ∧ v.kd ≤ 3 ∧ 0 ≤ v.pl ∧ v.pl ≤ (a.evs.length : Int) ∧ (v.pl = (a.evs.length : Int) → v.kd = 3)) → X = 111 ∧ Y = noP := fun h => hNo k hlt (vaOk_no hlt (by rw [hv]; exact h))
    by_cases h1 : v.kd < 1
    · obtain ⟨rfl, rfl⟩ := hNo2 (by omega)
      repeat (first | refine W.gob rfl ?_ | refine WL.nil ?_ | refine WL.bt rfl rfl rfl (by omega) ?_ | refine WL.e1 rfl ?_ | refine WL.opno rfl rfl rfl rfl rfl rfl rfl ?_ | refine W.condT rfl ?_)
      refine (?_ : W _ _ _ _ _)
      dsimp only [St.put, Nat.reduceAdd]
      refine W.tr (Tr.nilC 1 0 3 rfl rfl rfl) ?_
      refine W.tr (Tr.nilC 1 1 1 rfl rfl rfl) ?_
      refine W.tr (Tr.nilC 1 2 6 rfl rfl rfl) ?_
      exact W.ret (finN rfl rfl rfl rfl)
    by_cases h2 : 3 < v.kd
    · obtain ⟨rfl, rfl⟩ := hNo2 (by omega)
      repeat (first | refine W.gob rfl ?_ | refine WL.nil ?_ | refine WL.bt rfl rfl rfl (by omega) ?_ | refine WL.bf rfl rfl rfl (by omega) ?_ | refine WL.e1 rfl ?_ | refine WL.gyes rfl rfl rfl rfl ?_ | refine WL.opno rfl rfl rfl rfl rfl rfl rfl ?_ | refine W.condT rfl ?_)
      refine (?_ : W _ _ _ _ _)
      dsimp only [St.put, Nat.reduceAdd]
      refine W.tr (Tr.nilC 1 0 3 rfl rfl rfl) ?_
      refine W.tr (Tr.nilC 1 1 1 rfl rfl rfl) ?_
      refine W.tr (Tr.nilC 1 2 6 rfl rfl rfl) ?_
      exact W.ret (finN rfl rfl rfl rfl)
    by_cases h3 : v.pl < 0
    · obtain ⟨rfl, rfl⟩ := hNo2 (by omega)
      repeat (first | refine W.gob rfl ?_ | refine WL.nil ?_ | refine WL.bt rfl rfl rfl (by omega) ?_ | refine WL.bf rfl rfl rfl (by omega) ?_ | refine WL.e1 rfl ?_ | refine WL.gyes rfl rfl rfl rfl ?_ | refine WL.opno rfl rfl rfl rfl rfl rfl rfl ?_ | refine W.condT rfl ?_)
      refine (?_ : W _ _ _ _ _)
      dsimp only [St.put, Nat.reduceAdd]
      refine W.tr (Tr.nilC 1 0 3 rfl rfl rfl) ?_
      refine W.tr (Tr.nilC 1 1 1 rfl rfl rfl) ?_
      refine W.tr (Tr.nilC 1 2 6 rfl rfl rfl) ?_
      exact W.ret (finN rfl rfl rfl rfl)
    by_cases h4 : m < v.pl
    · obtain ⟨rfl, rfl⟩ := hNo2 (by split at hm <;> omega)
      repeat (first | refine W.gob rfl ?_ | refine WL.nil ?_ | refine WL.bt rfl rfl rfl (by omega) ?_ | refine WL.bf rfl rfl rfl (by omega) ?_ | refine WL.e1 rfl ?_ | refine WL.gyes rfl rfl rfl rfl ?_ | refine W.condT rfl ?_)
      refine (?_ : W _ _ _ _ _)
      dsimp only [St.put, Nat.reduceAdd]
      refine W.tr (Tr.nilC 1 0 3 rfl rfl rfl) ?_
      refine W.tr (Tr.nilC 1 1 1 rfl rfl rfl) ?_
      refine W.tr (Tr.nilC 1 2 6 rfl rfl rfl) ?_
      exact W.ret (finN rfl rfl rfl rfl)
    have hB : 1 ≤ v.kd ∧ v.kd ≤ 3 ∧ 0 ≤ v.pl ∧ v.pl ≤ (a.evs.length : Int) ∧ (v.pl = (a.evs.length : Int) → v.kd = 3) := by split at hm <;> omega
    cases k with
    | zero =>
      have hy := vaOk_yes0 (n := (a.evs.length : Int)) hlt (by rw [hv]; exact hB)
      repeat (first | refine W.gob rfl ?_ | refine WL.nil ?_ | refine WL.bf rfl rfl rfl (by omega) ?_ | refine WL.e1 rfl ?_ | refine WL.gyes rfl rfl rfl rfl ?_ | refine W.condF rfl ?_)
      refine (?_ : W _ _ _ _ _)
      dsimp only [St.put, Nat.reduceAdd]
      refine W.drawK (by kernel_rfl) (by kernel_rfl) ?_
      repeat (first | refine DK.bf rfl rfl (by omega) ?_ | refine DK.ff rfl (by first | (simp; done) | fail) ?_ | refine DK.st rfl ?_ | refine DK.nil ?_)
      repeat (first | refine W.gob rfl ?_ | refine WL.nil ?_ | refine WL.e1 rfl ?_ | refine WL.ar rfl rfl (by unfold I64; omega) ?_ | refine W.condF rfl ?_)
      dsimp only [St.put, Nat.reduceAdd]
      exact ⟨0 + 1, ⟨by omega, fun i hi => by obtain rfl : i = 0 := by omega
                                              exact hy⟩, by omega, (Tr.ren id (by repeat (first | exact trivial | refine ⟨⟨?_, ?_⟩, ?_⟩ | rfl)) (by repeat (first | exact trivial | refine ⟨⟨?_, ?_, ?_⟩, ?_⟩ | rfl)) rfl)⟩
    | succ j =>
      have hat2 := hLat (((j + 1 : Nat) : Int) - 1) j (by omega) (by omega)
      have hy : ((l[j]'(by omega)).pl < v.pl ∨ ((l[j]'(by omega)).pl = v.pl ∧ ¬ (l[j]'(by omega)).kd < 3)) → vaOk l a.evs.length (j + 1) = true := fun h => vaOk_yes hlt (by rw [hv]; exact hB) (by rw [hv]; exact h)
      have hn : ¬ ((l[j]'(by omega)).pl < v.pl ∨ ((l[j]'(by omega)).pl = v.pl ∧ ¬ (l[j]'(by omega)).kd < 3)) → X = 111 ∧ Y = noP := fun h => hNo (j + 1) hlt (vaOk_adj hlt (by rw [hv]; exact h))
      obtain ⟨u, hu⟩ : ∃ u, l[j]'(by omega) = u := ⟨_, rfl⟩
      rw [hu] at hat2 hy hn
      by_cases h5 : v.pl < u.pl
      · obtain ⟨rfl, rfl⟩ := hn (by omega)
        repeat (first | refine W.gob rfl ?_ | refine WL.nil ?_ | refine WL.bf rfl rfl rfl (by omega) ?_ | refine WL.e1 rfl ?_ | refine WL.gyes rfl rfl rfl rfl ?_ | refine W.condF rfl ?_)
        refine (?_ : W _ _ _ _ _)
        dsimp only [St.put, Nat.reduceAdd]
        refine W.drawK (by kernel_rfl) (by kernel_rfl) ?_
        repeat (first | refine DK.bt rfl rfl (by omega) ?_ | refine DK.tt rfl (by first | (simp; done) | fail) ?_ | refine DK.st rfl ?_ | refine DK.ar rfl rfl (by unfold I64; omega) ?_)
        refine DK.idx rfl rfl (by omega) hat2 ?_
        repeat (first | refine DK.bt rfl rfl (by omega) ?_ | refine DK.tt rfl (by first | (simp; done) | fail) ?_ | refine DK.st rfl ?_ | refine DK.nil ?_)
        repeat (first | refine W.gob rfl ?_ | refine WL.nil ?_ | refine WL.e1 rfl ?_ | refine W.condT rfl ?_)
        refine (?_ : W _ _ _ _ _)
        dsimp only [St.put, Nat.reduceAdd]
        refine W.tr (Tr.nilC 1 0 3 rfl rfl rfl) ?_
        refine W.tr (Tr.nilC 1 1 1 rfl rfl rfl) ?_
        refine W.tr (Tr.nilC 1 2 6 rfl rfl rfl) ?_
        exact W.ret (finN rfl rfl rfl rfl)
      by_cases h6 : u.kd < 3
      · by_cases h7 : v.pl = u.pl
        · obtain ⟨rfl, rfl⟩ := hn (by omega)
          repeat (first | refine W.gob rfl ?_ | refine WL.nil ?_ | refine WL.bf rfl rfl rfl (by omega) ?_ | refine WL.e1 rfl ?_ | refine WL.gyes rfl rfl rfl rfl ?_ | refine W.condF rfl ?_)
          refine (?_ : W _ _ _ _ _)
          dsimp only [St.put, Nat.reduceAdd]
          refine W.drawK (by kernel_rfl) (by kernel_rfl) ?_
          repeat (first | refine DK.bt rfl rfl (by omega) ?_ | refine DK.tt rfl (by first | (simp; done) | fail) ?_ | refine DK.st rfl ?_ | refine DK.ar rfl rfl (by unfold I64; omega) ?_)
          refine DK.idx rfl rfl (by omega) hat2 ?_
          repeat (first | refine DK.bf rfl rfl (by omega) ?_ | refine DK.ff rfl (by first | (simp; done) | fail) ?_ | refine DK.st rfl ?_ | refine DK.ar rfl rfl (by unfold I64; omega) ?_)
          refine DK.idx rfl rfl (by omega) hat2 ?_
          repeat (first | refine DK.bt rfl rfl (by omega) ?_ | refine DK.tt rfl (by first | (simp; done) | fail) ?_ | refine DK.st rfl ?_ | refine DK.ar rfl rfl (by unfold I64; omega) ?_)
          refine DK.idx rfl rfl (by omega) hat2 ?_
          repeat (first | refine DK.bt rfl rfl (by omega) ?_ | refine DK.tt rfl (by first | (simp; done) | fail) ?_ | refine DK.st rfl ?_ | refine DK.nil ?_)
          repeat (first | refine W.gob rfl ?_ | refine WL.nil ?_ | refine WL.e1 rfl ?_ | refine W.condT rfl ?_)
          refine (?_ : W _ _ _ _ _)
          dsimp only [St.put, Nat.reduceAdd]
          refine W.tr (Tr.nilC 1 0 3 rfl rfl rfl) ?_
          refine W.tr (Tr.nilC 1 1 1 rfl rfl rfl) ?_
          refine W.tr (Tr.nilC 1 2 6 rfl rfl rfl) ?_
          exact W.ret (finN rfl rfl rfl rfl)
        · have hy := hy (by omega)
          repeat (first | refine W.gob rfl ?_ | refine WL.nil ?_ | refine WL.bf rfl rfl rfl (by omega) ?_ | refine WL.e1 rfl ?_ | refine WL.gyes rfl rfl rfl rfl ?_ | refine W.condF rfl ?_)
          refine (?_ : W _ _ _ _ _)
          dsimp only [St.put, Nat.reduceAdd]
          refine W.drawK (by kernel_rfl) (by kernel_rfl) ?_
          repeat (first | refine DK.bt rfl rfl (by omega) ?_ | refine DK.tt rfl (by first | (simp; done) | fail) ?_ | refine DK.st rfl ?_ | refine DK.ar rfl rfl (by unfold I64; omega) ?_)
          refine DK.idx rfl rfl (by omega) hat2 ?_
          repeat (first | refine DK.bf rfl rfl (by omega) ?_ | refine DK.ff rfl (by first | (simp; done) | fail) ?_ | refine DK.st rfl ?_ | refine DK.ar rfl rfl (by unfold I64; omega) ?_)
          refine DK.idx rfl rfl (by omega) hat2 ?_
          repeat (first | refine DK.bt rfl rfl (by omega) ?_ | refine DK.tt rfl (by first | (simp; done) | fail) ?_ | refine DK.st rfl ?_ | refine DK.ar rfl rfl (by unfold I64; omega) ?_)
          refine DK.idx rfl rfl (by omega) hat2 ?_
          repeat (first | refine DK.bf rfl rfl (by omega) ?_ | refine DK.ff rfl (by first | (simp; done) | fail) ?_ | refine DK.st rfl ?_ | refine DK.nil ?_)
          repeat (first | refine W.gob rfl ?_ | refine WL.nil ?_ | refine WL.e1 rfl ?_ | refine WL.ar rfl rfl (by unfold I64; omega) ?_ | refine W.condF rfl ?_)
          dsimp only [St.put, Nat.reduceAdd]
          exact ⟨j + 1 + 1, ⟨by omega, fun i hi => by
            by_cases e : i = j + 1
            · subst e; exact hy
            · exact hgood i (by omega)⟩, by omega, (Tr.ren id (by repeat (first | exact trivial | refine ⟨⟨?_, ?_⟩, ?_⟩ | rfl)) (by repeat (first | exact trivial | refine ⟨⟨?_, ?_, ?_⟩, ?_⟩ | rfl)) rfl)⟩
      · have hy := hy (by omega)
        repeat (first | refine W.gob rfl ?_ | refine WL.nil ?_ | refine WL.bf rfl rfl rfl (by omega) ?_ | refine WL.e1 rfl ?_ | refine WL.gyes rfl rfl rfl rfl ?_ | refine W.condF rfl ?_)
        refine (?_ : W _ _ _ _ _)
        dsimp only [St.put, Nat.reduceAdd]
        refine W.drawK (by kernel_rfl) (by kernel_rfl) ?_
        repeat (first | refine DK.bt rfl rfl (by omega) ?_ | refine DK.tt rfl (by first | (simp; done) | fail) ?_ | refine DK.st rfl ?_ | refine DK.ar rfl rfl (by unfold I64; omega) ?_)
        refine DK.idx rfl rfl (by omega) hat2 ?_
        repeat (first | refine DK.bf rfl rfl (by omega) ?_ | refine DK.ff rfl (by first | (simp; done) | fail) ?_ | refine DK.st rfl ?_ | refine DK.ar rfl rfl (by unfold I64; omega) ?_)
        refine DK.idx rfl rfl (by omega) hat2 ?_
        repeat (first | refine DK.bf rfl rfl (by omega) ?_ | refine DK.ff rfl (by first | (simp; done) | fail) ?_ | refine DK.st rfl ?_ | refine DK.nil ?_)
        repeat (first | refine W.gob rfl ?_ | refine WL.nil ?_ | refine WL.e1 rfl ?_ | refine WL.ar rfl rfl (by unfold I64; omega) ?_ | refine W.condF rfl ?_)
        dsimp only [St.put, Nat.reduceAdd]
        exact ⟨j + 1 + 1, ⟨by omega, fun i hi => by
          by_cases e : i = j + 1
          · subst e; exact hy
          · exact hgood i (by omega)⟩, by omega, (Tr.ren id (by repeat (first | exact trivial | refine ⟨⟨?_, ?_⟩, ?_⟩ | rfl)) (by repeat (first | exact trivial | refine ⟨⟨?_, ?_, ?_⟩, ?_⟩ | rfl)) rfl)⟩
  have hke : k = l.length := by omega
  have hXY := hYes fun q hq => hgood q (by omega)
  repeat (first | refine W.gob rfl ?_ | refine WL.nil ?_ | refine WL.bf rfl rfl rfl (by omega) ?_ | refine WL.e1 rfl ?_ | refine W.condF rfl ?_)
  refine (?_ : W _ _ _ _ _)
  dsimp only [St.put, Nat.reduceAdd]
  refine W.tr (Tr.nilBox (k := 2) (j := 2) 36 6 rfl rfl rfl rfl) ?_
  refine W.loop (fun i : Nat => i ≤ PE.length + 1) (fun i => ⟨[(1, .ls 8 ((appS PE l i).2.map eVa)), (2, .pt 0 0 0), (4, .pt 1 0 0), (10, .pt 2 0 0), (11, .sc (.int .i64 (i : Nat)))], [(0, .box 28 [.ls 3 (a.cs.map eCrs), .ls 1 (a.st.map eInt), .ls 6 (PE.map eEv)]), (1, .box 28 [.sc (.slice none 0 0), .sc (.slice none 0 0), .sc (.slice none 0 0)]), (2, .box 28 [.ls 3 (a.cs.map eCrs), .ls 1 (a.st.map eInt), .sl 3]), (3, .row 36 6 ((appS PE l i).1.map eEv))], 4⟩) (fun i => PE.length + 1 - i) 0 (by omega) (by rw [← hLL]; exact (Tr.ren id (by repeat (first | exact trivial | refine ⟨⟨?_, ?_⟩, ?_⟩ | rfl)) (by repeat (first | exact trivial | refine ⟨⟨?_, ?_, ?_⟩, ?_⟩ | rfl)) rfl)) fun i hi => ?_
  have hln1 := appS_len PE l i
  by_cases hin : i ≤ PE.length
  rotate_left
  · have hie : i = PE.length + 1 := by omega
    have hap : (appS PE l i).1 = apvE PE l := by rw [hie]; rfl
    rw [hap]
    rw [hAO2] at hCk hXY hAP
    obtain ⟨AV_, hAV⟩ : ∃ z, apvE PE l = z := ⟨_, rfl⟩
    rw [hAV] at hCk hXY hAP ⊢
    repeat (first | refine W.gob rfl ?_ | refine WL.nil ?_ | refine WL.bf rfl rfl rfl (by omega) ?_ | refine WL.e1 rfl ?_ | refine WL.len rfl rfl (by first | exact List.length_map _ | exact List.length_replicate | rfl) ?_ | refine W.condF rfl ?_)
    refine (?_ : WL _ _ _ _ _ _)
    dsimp only [St.put, Nat.reduceAdd]
    refine WL.tr (Tr.freeze 3 rfl) ?_
    refine WL.vl rfl (WV.call rfl (callF Tryz.func52 rfl rfl) rfl rfl hCk) ?_
    rw [← hXY]
    by_cases hz : X = 0
    · rw [if_pos hz] at hAP
      rw [hAP, hz]
      repeat (first | refine W.gob rfl ?_ | refine WL.nil ?_ | refine WL.nf rfl rfl rfl (by omega) ?_ | refine WL.e1 rfl ?_ | refine W.condF rfl ?_)
      refine (?_ : W _ _ _ _ _)
      dsimp only [St.put, Nat.reduceAdd]
      exact W.ret (finN rfl rfl rfl rfl)
    · rw [if_neg hz] at hAP
      rw [hAP]
      repeat (first | refine W.gob rfl ?_ | refine WL.nil ?_ | refine WL.nt rfl rfl rfl (by omega) ?_ | refine WL.e1 rfl ?_ | refine W.condT rfl ?_)
      refine (?_ : W _ _ _ _ _)
      dsimp only [St.put, Nat.reduceAdd]
      refine W.tr (Tr.nilC 1 0 3 rfl rfl rfl) ?_
      refine W.tr (Tr.nilC 1 1 1 rfl rfl rfl) ?_
      refine W.tr (Tr.nilC 1 2 6 rfl rfl rfl) ?_
      exact W.ret (finN rfl rfl rfl rfl)
  have hS1 : (appS PE l (i + 1)).1 = (appS PE l i).1 ++ outV PE i (appS PE l i).2 := rfl
  have hS2 : (appS PE l (i + 1)).2 = tlV i (appS PE l i).2 := rfl
  have hst20 : ∀ v ∈ (appS PE l i).2, v.ev.stops.length ≤ 20 := fun v hv => hl.s v (appS_mem2 PE l i v hv)
  obtain ⟨R, hR⟩ : ∃ z, (appS PE l i).2 = z := ⟨_, rfl⟩
  obtain ⟨O, hOq⟩ : ∃ z, (appS PE l i).1 = z := ⟨_, rfl⟩
  rw [hR] at hS1 hS2 hst20 hln1 ⊢
  rw [hOq] at hS1 hln1 ⊢
  obtain ⟨sb, hsb⟩ : ∃ b : Bool, decide ((i : Int) < (PE.length : Int)) = b := ⟨_, rfl⟩
  repeat (first | refine W.gob rfl ?_ | refine WL.nil ?_ | refine WL.bt rfl rfl rfl (by omega) ?_ | refine WL.e1 rfl ?_ | refine WL.len rfl rfl (by first | exact List.length_map _ | exact List.length_replicate | rfl) ?_ | refine W.condT rfl ?_)
  refine (?_ : W _ _ _ _ _)
  dsimp only [St.put, Nat.reduceAdd]
  rw [hsb]
  refine W.loop (fun j : Nat => j ≤ R.length ∧ ∀ v ∈ R.take j, atV i v = true) (fun j => ⟨[(1, .ls 8 ((R.drop j).map eVa)), (12, .sc (.bool (stV (R.take j) && sb))), (2, .pt 0 0 0), (4, .pt 1 0 0), (10, .pt 2 0 0), (11, .sc (.int .i64 (i : Nat)))], [(0, .box 28 [.ls 3 (a.cs.map eCrs), .ls 1 (a.st.map eInt), .ls 6 (PE.map eEv)]), (1, .box 28 [.sc (.slice none 0 0), .sc (.slice none 0 0), .sc (.slice none 0 0)]), (2, .box 28 [.ls 3 (a.cs.map eCrs), .ls 1 (a.st.map eInt), .sl 3]), (3, .row 36 6 ((O ++ vaE (R.take j)).map eEv))], 4⟩) (fun j => R.length - j) 0 ⟨by omega, fun v hv => by simp at hv⟩ (Tr.ren (fun q => q) (by repeat (first | exact trivial | refine ⟨⟨?_, ?_⟩, ?_⟩ | rfl)) (by repeat (first | exact trivial | refine ⟨⟨?_, ?_, ?_⟩, ?_⟩ | rfl | exact congrArg (fun q => some (AO.row _ _ q)) (by simp [vaE]))) rfl) fun j hj => ?_
  obtain ⟨hj1, hj2⟩ := hj
  have hvl := vaE_len (R.take j)
  rw [List.length_take] at hvl
  obtain ⟨D, hD⟩ : ∃ D, R.drop j = D := ⟨_, rfl⟩
  by_cases hgo : ∃ x r, D = x :: r ∧ x.pl = (i : Int)
  · obtain ⟨x, r, rfl, hx⟩ := hgo
    obtain ⟨d1, d2, d3⟩ := drop_next hj1 hD
    have hx20 := hst20 x (List.mem_of_mem_drop (by rw [hD]; simp : x ∈ R.drop j))
    have hsn := stV_snoc (R.take j) x
    have hvn := vaE_snoc (R.take j) x
    rw [← d3] at hsn hvn
    have hall : ∀ v ∈ R.take (j + 1), atV i v = true := fun v hv => by
      rw [d3] at hv
      rcases List.mem_append.1 hv with hv | hv
      · exact hj2 v hv
      · rw [List.mem_singleton] at hv; rw [hv]; exact decide_eq_true hx
    have hpr : prt (eVa x :: r.map eVa) 1 ((eVa x :: r.map eVa).length : Nat) = r.map eVa := by unfold prt; simp; rw [List.take_of_length_le (by simp)]
    have hlc : (eVa x :: r.map eVa).length = r.length + 1 := by simp
    have hcl := clnStp_FS x.ev.stops (by omega)
    obtain ⟨V0, hV0⟩ : ∃ z, vaE (R.take j) = z := ⟨_, rfl⟩
    obtain ⟨V1, hV1⟩ : ∃ z, vaE (R.take (j + 1)) = z := ⟨_, rfl⟩
    rw [hV0] at hvl hvn ⊢
    rw [hV1] at hvn
    have hOV : (O ++ V0).length ≤ 300 := by rw [List.length_append]; omega
    obtain ⟨OV, hOVq⟩ : ∃ z, O ++ V0 = z := ⟨_, rfl⟩
    rw [hOVq] at hOV ⊢
    rw [hD, List.map_cons]
    repeat (first | refine W.gob rfl ?_ | refine WL.bt rfl rfl rfl (by omega) ?_ | refine WL.e1 rfl ?_ | refine WL.gyes rfl rfl rfl rfl ?_ | refine WL.len rfl rfl (by first | exact List.length_map _ | exact List.length_replicate | rfl) ?_)
    refine (?_ : WL _ _ _ _ _ _)
    dsimp only [St.put, Nat.reduceAdd]
    refine WL.idx rfl rfl (by decide) (r := eVa x) rfl ?_
    repeat (first | refine W.gob rfl ?_ | refine WL.nil ?_ | refine WL.bt rfl rfl rfl (by omega) ?_ | refine WL.e1 rfl ?_ | refine WL.gyes rfl rfl rfl rfl ?_ | refine W.condT rfl ?_)
    refine (?_ : WL _ _ _ _ _ _)
    dsimp only [St.put, Nat.reduceAdd]
    refine WL.idx rfl rfl (by decide) (r := eVa x) rfl ?_
    repeat (first | refine WL.nil ?_ | refine WL.e1 rfl ?_)
    refine (?_ : W _ _ _ _ _)
    dsimp only [St.put, Nat.reduceAdd]
    refine W.meet ⟨[(1, .ls 8 (eVa x :: r.map eVa)), (12, .sc (.bool (stV (R.take j) && sb))), (2, .pt 0 0 0), (4, .pt 1 0 0), (10, .pt 2 0 0), (11, .sc (.int .i64 (i : Nat)))], [(0, .box 28 [.ls 3 (a.cs.map eCrs), .ls 1 (a.st.map eInt), .ls 6 (PE.map eEv)]), (1, .box 28 [.sc (.slice none 0 0), .sc (.slice none 0 0), .sc (.slice none 0 0)]), (2, .box 28 [.ls 3 (a.cs.map eCrs), .ls 1 (a.st.map eInt), .sl 3]), (3, .row 36 6 ((O ++ V1).map eEv))], 4⟩ ?_ ?_
    · (refine W.cond rfl (fun hif => ?_) (fun hif => ?_) <;> (try simp only [decide_eq_true_eq, decide_eq_false_iff_not, Int.not_lt, Int.not_le, Bool.not_eq_true', Bool.not_eq_false'] at hif))
      · have hk2 : ¬ x.kd = 2 := by simpa using hif
        rw [if_neg hk2] at hvn
        have hrow : OV.map eEv ++ [eEv x.ev] = (O ++ V1).map eEv := by rw [hvn, ← hOVq]; simp
        repeat (first | refine W.gob rfl ?_ | refine WL.e1 rfl ?_)
        refine (?_ : WL _ _ _ _ _ _)
        dsimp only [St.put, Nat.reduceAdd]
        refine WL.idx rfl rfl (by decide) (r := eVa x) rfl ?_
        repeat (first | refine W.go rfl ?_ | refine WL.ev rfl ?_)
        refine (?_ : WL _ _ _ _ _ _)
        dsimp only [St.put, Nat.reduceAdd]
        refine WL.vl rfl (WV.call rfl (callF Tryz.func51 rfl rfl) rfl rfl hcl) ?_
        repeat (first | refine W.go rfl ?_ | refine WL.ev rfl ?_ | refine WL.app rfl rfl rfl (by first | omega | (simp; done) | (simp; omega)) ?_)
        dsimp only [St.put, Nat.reduceAdd]
        refine (?_ : Tr _ _ _)
        exact (Tr.ren (fun q => bif Nat.beq q 3 then 6 else q) (by repeat (first | exact trivial | refine ⟨⟨?_, ?_⟩, ?_⟩ | rfl)) (by repeat (first | exact trivial | refine ⟨⟨?_, ?_, ?_⟩, ?_⟩ | rfl | exact congrArg (fun q => some (AO.row _ _ q)) hrow)) rfl)
      · have hk2 : x.kd = 2 := by simpa using hif
        rw [if_pos hk2, List.append_nil] at hvn
        rw [hvn, hOVq]
        repeat refine W.gob rfl ?_
        refine (?_ : Tr _ _ _)
        exact (Tr.ren id (by repeat (first | exact trivial | refine ⟨⟨?_, ?_⟩, ?_⟩ | rfl)) (by repeat (first | exact trivial | refine ⟨⟨?_, ?_, ?_⟩, ?_⟩ | rfl)) rfl)
    repeat (first | refine W.gob rfl ?_ | refine WL.e1 rfl ?_)
    refine (?_ : WL _ _ _ _ _ _)
    dsimp only [St.put, Nat.reduceAdd]
    refine WL.partG rfl rfl rfl rfl (fun hp => ?_) (fun hp => ?_)
    · simp only [Bool.and_eq_true] at hp
      refine WL.gyes rfl rfl rfl rfl ?_
      repeat (first | refine WL.e1 rfl ?_ | refine WL.gyes rfl rfl rfl rfl ?_)
      refine (?_ : WL _ _ _ _ _ _)
      dsimp only [St.put, Nat.reduceAdd]
      refine WL.idx rfl rfl (by decide) (r := eVa x) rfl ?_
      by_cases hk3 : x.kd = 3
      · have hb : (stV (R.take (j + 1)) && sb) = true := by rw [hsn, hp.1, hp.2, hk3]; rfl
        repeat (first | refine W.gob rfl ?_ | refine WL.nil ?_ | refine WL.bt rfl rfl rfl (by omega) ?_ | refine WL.e1 rfl ?_ | refine WL.gyes rfl rfl rfl rfl ?_)
        refine (?_ : WL _ _ _ _ _ _)
        dsimp only [St.put, Nat.reduceAdd]
        refine WL.part_ rfl rfl ⟨by decide, by simp; omega, Int.le_refl _⟩ hpr ?_
        repeat (first | refine WL.nil ?_ | refine WL.e1 rfl ?_)
        dsimp only [St.put, Nat.reduceAdd]
        refine ⟨j + 1, ⟨by omega, hall⟩, by omega, ?_⟩
        rw [d2, hb, hV1]
        exact (Tr.ren id (by repeat (first | exact trivial | refine ⟨⟨?_, ?_⟩, ?_⟩ | rfl)) (by repeat (first | exact trivial | refine ⟨⟨?_, ?_, ?_⟩, ?_⟩ | rfl)) rfl)
      · have hb : (stV (R.take (j + 1)) && sb) = false := by
          have : (x.kd == 3) = false := by simpa using hk3
          rw [hsn, this]; simp
        repeat (first | refine W.gob rfl ?_ | refine WL.nil ?_ | refine WL.bf rfl rfl rfl (by omega) ?_ | refine WL.e1 rfl ?_ | refine WL.gyes rfl rfl rfl rfl ?_)
        refine (?_ : WL _ _ _ _ _ _)
        dsimp only [St.put, Nat.reduceAdd]
        refine WL.part_ rfl rfl ⟨by decide, by simp; omega, Int.le_refl _⟩ hpr ?_
        repeat (first | refine WL.nil ?_ | refine WL.e1 rfl ?_)
        dsimp only [St.put, Nat.reduceAdd]
        refine ⟨j + 1, ⟨by omega, hall⟩, by omega, ?_⟩
        rw [d2, hb, hV1]
        exact (Tr.ren id (by repeat (first | exact trivial | refine ⟨⟨?_, ?_⟩, ?_⟩ | rfl)) (by repeat (first | exact trivial | refine ⟨⟨?_, ?_, ?_⟩, ?_⟩ | rfl)) rfl)
    · have hb : (stV (R.take (j + 1)) && sb) = false := by
        rw [hsn]
        cases h1 : stV (R.take j) with
        | false => simp
        | true =>
          rw [h1] at hp
          have : sb = false := by simpa using hp
          rw [this]; simp
      repeat (first | refine W.gob rfl ?_ | refine WL.nil ?_ | refine WL.e1 rfl ?_ | refine WL.opno rfl rfl rfl rfl rfl rfl rfl ?_)
      refine (?_ : WL _ _ _ _ _ _)
      dsimp only [St.put, Nat.reduceAdd]
      refine WL.part_ rfl rfl ⟨by decide, by simp; omega, Int.le_refl _⟩ hpr ?_
      repeat (first | refine WL.nil ?_ | refine WL.e1 rfl ?_)
      dsimp only [St.put, Nat.reduceAdd]
      refine ⟨j + 1, ⟨by omega, hall⟩, by omega, ?_⟩
      rw [d2, hb, hV1]
      exact (Tr.ren id (by repeat (first | exact trivial | refine ⟨⟨?_, ?_⟩, ?_⟩ | rfl)) (by repeat (first | exact trivial | refine ⟨⟨?_, ?_, ?_⟩, ?_⟩ | rfl)) rfl)
  have htw := take_wh (f := atV i) hj1 hj2 (fun h => by
    have := List.drop_eq_getElem_cons h
    rw [hD] at this
    refine decide_eq_false fun hz => hgo ⟨_, _, this, hz⟩)
  have hhd : hdV i R = R.take j := htw.1
  have htl : tlV i R = D := by rw [← hD]; exact htw.2
  rw [htl] at hS2
  unfold outV at hS1
  rw [hhd] at hS1
  rw [hD]
  obtain ⟨V0, hV0⟩ : ∃ z, vaE (R.take j) = z := ⟨_, rfl⟩
  rw [hV0] at hvl hS1 ⊢
  obtain ⟨st, hst⟩ : ∃ z, stV (R.take j) = z := ⟨_, rfl⟩
  rw [hst] at hS1 ⊢
  rw [← List.append_assoc] at hS1
  have hOV : (O ++ V0).length ≤ 300 := by rw [List.length_append]; omega
  obtain ⟨OV, hOVq⟩ : ∃ z, O ++ V0 = z := ⟨_, rfl⟩
  rw [hOVq] at hOV hS1 ⊢
  refine W.seq ?_
  refine W.seqM ⟨[(120, .sc (.bool false)), (1, .ls 8 (D.map eVa)), (12, .sc (.bool (st && sb))), (2, .pt 0 0 0), (4, .pt 1 0 0), (10, .pt 2 0 0), (11, .sc (.int .i64 (i : Nat)))], [(0, .box 28 [.ls 3 (a.cs.map eCrs), .ls 1 (a.st.map eInt), .ls 6 (PE.map eEv)]), (1, .box 28 [.sc (.slice none 0 0), .sc (.slice none 0 0), .sc (.slice none 0 0)]), (2, .box 28 [.ls 3 (a.cs.map eCrs), .ls 1 (a.st.map eInt), .sl 3]), (3, .row 36 6 (OV.map eEv))], 4⟩ ?_ ?_
  · have hno : D = [] ∨ (∃ x r, D = x :: r ∧ ¬ x.pl = (i : Int)) := by
      cases hDc : D with
      | nil => exact .inl rfl
      | cons x r => exact .inr ⟨x, r, rfl, fun h => hgo ⟨x, r, hDc, h⟩⟩
    rcases hno with h | ⟨x, r, h1, h2⟩
    · subst h
      rw [List.map_nil]
      repeat (first | refine W.gob rfl ?_ | refine WL.nil ?_ | refine WL.e1 rfl ?_ | refine WL.opno rfl rfl rfl rfl rfl rfl rfl ?_ | refine WL.len rfl rfl (by first | exact List.length_map _ | exact List.length_replicate | rfl) ?_)
      dsimp only [St.put, Nat.reduceAdd]
      refine (?_ : Tr _ _ _)
      exact (Tr.ren id (by repeat (first | exact trivial | refine ⟨⟨?_, ?_⟩, ?_⟩ | rfl)) (by repeat (first | exact trivial | refine ⟨⟨?_, ?_, ?_⟩, ?_⟩ | rfl)) rfl)
    · subst h1
      have hlc : (eVa x :: r.map eVa).length = r.length + 1 := by simp
      rw [List.map_cons]
      repeat (first | refine W.gob rfl ?_ | refine WL.bt rfl rfl rfl (by omega) ?_ | refine WL.e1 rfl ?_ | refine WL.gyes rfl rfl rfl rfl ?_ | refine WL.len rfl rfl (by first | exact List.length_map _ | exact List.length_replicate | rfl) ?_)
      refine (?_ : WL _ _ _ _ _ _)
      dsimp only [St.put, Nat.reduceAdd]
      refine WL.idx rfl rfl (by decide) (r := eVa x) rfl ?_
      repeat (first | refine WL.nil ?_ | refine WL.bf rfl rfl rfl (by omega) ?_ | refine WL.e1 rfl ?_ | refine WL.gyes rfl rfl rfl rfl ?_)
      dsimp only [St.put, Nat.reduceAdd]
      refine (?_ : Tr _ _ _)
      exact (Tr.ren id (by repeat (first | exact trivial | refine ⟨⟨?_, ?_⟩, ?_⟩ | rfl)) (by repeat (first | exact trivial | refine ⟨⟨?_, ?_, ?_⟩, ?_⟩ | rfl)) rfl)
  repeat (first | refine W.go rfl ?_ | refine W.condF rfl ?_)
  refine (?_ : W _ _ _ _ _)
  dsimp only [St.put, Nat.reduceAdd]
  (refine W.cond rfl (fun hif => ?_) (fun hif => ?_) <;> (try simp only [decide_eq_true_eq, decide_eq_false_iff_not, Int.not_lt, Int.not_le, Bool.not_eq_true', Bool.not_eq_false'] at hif))
  · simp only [Bool.and_eq_true] at hif
    have hil : i < PE.length := by
      have := hif.2
      rw [← hsb] at this
      have := of_decide_eq_true this
      omega
    rw [List.getElem?_eq_getElem hil, hif.1] at hS1
    simp only [if_true] at hS1
    have hrow : OV.map eEv ++ [eEv PE[i]] = (appS PE l (i + 1)).1.map eEv := by rw [hS1, List.map_append]; rfl
    refine (?_ : W _ _ _ _ _)
    refine W.dmT 10 [0, 2] (by kernel_rfl) (by kernel_rfl) (by kernel_rfl) (by kernel_rfl) (by kernel_rfl) (by repeat constructor) ?_
    repeat (first | refine DMK.st rfl rfl ?_ | refine DMK.idx rfl rfl (by omega) (by first | exact map_at (by omega) | exact map_atZ (by omega) (by omega)) ?_ | refine DMK.bd rfl rfl rfl (by repeat constructor) ?_ | refine DMK.ap rfl rfl (by first | omega | (simp; done) | (simp; omega)) (by repeat constructor) ?_ | refine DMK.nil ?_)
    refine ⟨rfl, ?_⟩
    repeat (first | refine W.go rfl ?_ | refine WL.ev rfl ?_ | refine WL.ar rfl rfl (by unfold I64; omega) ?_)
    dsimp only [St.put, Nat.reduceAdd]
    refine ⟨i + 1, by omega, by omega, ?_⟩
    rw [hS2]
    exact (Tr.ren (fun q => bif Nat.beq q 3 then 5 else q) (by repeat (first | exact trivial | refine ⟨⟨?_, ?_⟩, ?_⟩ | rfl)) (by repeat (first | exact trivial | refine ⟨⟨?_, ?_, ?_⟩, ?_⟩ | rfl | exact congrArg (fun q => some (AO.row _ _ q)) hrow)) rfl)
  · have hrow : OV.map eEv = (appS PE l (i + 1)).1.map eEv := by
      rw [hS1]
      by_cases hil : i < PE.length
      · have hs : sb = true := by rw [← hsb]; exact decide_eq_true (by omega)
        rw [hs, Bool.and_true] at hif
        rw [List.getElem?_eq_getElem hil]
        have : st = false := by simpa using hif
        rw [this]; simp
      · rw [List.getElem?_eq_none (by omega), List.append_nil]
    repeat (first | refine W.gob rfl ?_ | refine WL.nil ?_ | refine WL.e1 rfl ?_ | refine WL.ar rfl rfl (by unfold I64; omega) ?_)
    dsimp only [St.put, Nat.reduceAdd]
    refine ⟨i + 1, by omega, by omega, ?_⟩
    rw [hS2]
    exact (Tr.ren (fun q => q) (by repeat (first | exact trivial | refine ⟨⟨?_, ?_⟩, ?_⟩ | rfl)) (by repeat (first | exact trivial | refine ⟨⟨?_, ?_, ?_⟩, ?_⟩ | rfl | exact congrArg (fun q => some (AO.row _ _ q)) hrow)) rfl)
end Go.Proofs.YtgelfflighgajaaGreatDoor
