/- Apply of the reference. -/
import Derived.Test.YtgelfflighgajaaGreatDoorApPAq
import Derived.Test.YtgelfflighgajaaGreatDoorRPnAq
set_option linter.unusedVariables false
set_option linter.unusedSimpArgs false
namespace Go.Proofs.YtgelfflighgajaaGreatDoor
open Go.RowKit
set_option maxHeartbeats 8000000
set_option maxRecDepth 100000
theorem fits_FS (l : List Va) (n : Nat) (hl : l.length ≤ 1000) : Ctr Tryz.prog 54 [.ls 8 (l.map eVa), .sc (.int .i64 n)] (.sc (.bool (fitV l n))) := by
  obtain ⟨LL, hLL⟩ : ∃ z, l.map eVa = z := ⟨_, rfl⟩
  have hLLl : LL.length = l.length := by rw [← hLL, List.length_map]
  have hLat : ∀ (z : Int) (k : Nat) (hk : k < l.length), z.toNat = k → LL[z.toNat]? = some (eVa l[k]) := fun z k hk e => by rw [e, ← hLL]; simp [hk]
  rw [hLL]
  refine Ctr.intro Tryz.func54 rfl Tryz.ntmps54 (Nat.le_of_ble_eq_true rfl) (bd_all rfl) fun w0 F0 => ?_; dsimp only [St.init, number, Nat.reduceAdd]
  repeat refine W.go rfl ?_
  refine (?_ : W _ _ _ _ _)
  refine W.loop (fun k : Nat => k ≤ l.length ∧ ∀ i, i < k → vaOk l n i = true) (fun k => ⟨[(0, .ls 8 LL), (1, .sc (.int .i64 n)), (5, .sc (.int .i64 k))], [], 0⟩) (fun k => l.length - k) 0 ⟨by omega, fun i hi => by omega⟩ (Tr.ren id (by repeat (first | exact trivial | refine ⟨⟨?_, ?_⟩, ?_⟩ | rfl)) (by repeat (first | exact trivial | refine ⟨⟨?_, ?_, ?_⟩, ?_⟩ | rfl)) rfl) fun k hk => ?_
  obtain ⟨hk, hgood⟩ := hk
  by_cases hlt : k < l.length
  rotate_left
  · rw [fitV_yes fun q hq => hgood q (by omega)]
    repeat (first | refine W.gob rfl ?_ | refine WL.nil ?_ | refine WL.bf rfl rfl rfl (by omega) ?_ | refine WL.e1 rfl ?_ | refine WL.len rfl rfl (by first | exact List.length_map _ | exact List.length_replicate | rfl) ?_ | refine W.condF rfl ?_)
    refine (?_ : W _ _ _ _ _)
    dsimp only [St.put, Nat.reduceAdd]
    exact W.ret (fin1 rfl rfl rfl rfl)
  have hat := hLat (k : Nat) k hlt (Int.toNat_natCast k)
  have hNo : vaOk l n k = false → fitV l n = false := fun h => fitV_no hlt h
  obtain ⟨v, hv⟩ : ∃ v, l[k] = v := ⟨_, rfl⟩
  rw [hv] at hat
  have hNo2 : ¬ (1 ≤ v.kd ∧ v.kd ≤ 3 ∧ 0 ≤ v.pl ∧ v.pl ≤ (n : Int) ∧ (v.pl = (n : Int) → v.kd = 3)) → fitV l n = false := fun h => hNo (vaOk_no hlt (by rw [hv]; exact h))
  by_cases h1 : v.kd < 1
  · rw [hNo2 (by omega)]
    repeat (first | refine W.gob rfl ?_ | refine WL.nil ?_ | refine WL.bt rfl rfl rfl (by omega) ?_ | refine WL.e1 rfl ?_ | refine WL.len rfl rfl (by first | exact List.length_map _ | exact List.length_replicate | rfl) ?_ | refine W.condT rfl ?_)
    refine (?_ : WL _ _ _ _ _ _)
    dsimp only [St.put, Nat.reduceAdd]
    refine WL.idx rfl rfl (by omega) hat ?_
    repeat (first | refine W.gob rfl ?_ | refine WL.nil ?_ | refine WL.bt rfl rfl rfl (by omega) ?_ | refine WL.e1 rfl ?_ | refine WL.opno rfl rfl rfl rfl rfl rfl rfl ?_ | refine W.condT rfl ?_)
    refine (?_ : W _ _ _ _ _)
    dsimp only [St.put, Nat.reduceAdd]
    exact W.ret (fin1 rfl rfl rfl rfl)
  by_cases h2 : 3 < v.kd
  · rw [hNo2 (by omega)]
    repeat (first | refine W.gob rfl ?_ | refine WL.nil ?_ | refine WL.bt rfl rfl rfl (by omega) ?_ | refine WL.e1 rfl ?_ | refine WL.len rfl rfl (by first | exact List.length_map _ | exact List.length_replicate | rfl) ?_ | refine W.condT rfl ?_)
    refine (?_ : WL _ _ _ _ _ _)
    dsimp only [St.put, Nat.reduceAdd]
    refine WL.idx rfl rfl (by omega) hat ?_
    repeat (first | refine W.gob rfl ?_ | refine WL.nil ?_ | refine WL.bt rfl rfl rfl (by omega) ?_ | refine WL.bf rfl rfl rfl (by omega) ?_ | refine WL.e1 rfl ?_ | refine WL.gyes rfl rfl rfl rfl ?_ | refine WL.opno rfl rfl rfl rfl rfl rfl rfl ?_ | refine W.condT rfl ?_)
    refine (?_ : W _ _ _ _ _)
    dsimp only [St.put, Nat.reduceAdd]
    exact W.ret (fin1 rfl rfl rfl rfl)
  by_cases h3 : v.pl < 0
  · rw [hNo2 (by omega)]
    repeat (first | refine W.gob rfl ?_ | refine WL.nil ?_ | refine WL.bt rfl rfl rfl (by omega) ?_ | refine WL.e1 rfl ?_ | refine WL.len rfl rfl (by first | exact List.length_map _ | exact List.length_replicate | rfl) ?_ | refine W.condT rfl ?_)
    refine (?_ : WL _ _ _ _ _ _)
    dsimp only [St.put, Nat.reduceAdd]
    refine WL.idx rfl rfl (by omega) hat ?_
    repeat (first | refine W.gob rfl ?_ | refine WL.nil ?_ | refine WL.bt rfl rfl rfl (by omega) ?_ | refine WL.bf rfl rfl rfl (by omega) ?_ | refine WL.e1 rfl ?_ | refine WL.gyes rfl rfl rfl rfl ?_ | refine WL.opno rfl rfl rfl rfl rfl rfl rfl ?_ | refine W.condT rfl ?_)
    refine (?_ : W _ _ _ _ _)
    dsimp only [St.put, Nat.reduceAdd]
    exact W.ret (fin1 rfl rfl rfl rfl)
  by_cases h4 : (n : Int) < v.pl
  · rw [hNo2 (by omega)]
    repeat (first | refine W.gob rfl ?_ | refine WL.nil ?_ | refine WL.bt rfl rfl rfl (by omega) ?_ | refine WL.e1 rfl ?_ | refine WL.len rfl rfl (by first | exact List.length_map _ | exact List.length_replicate | rfl) ?_ | refine W.condT rfl ?_)
    refine (?_ : WL _ _ _ _ _ _)
    dsimp only [St.put, Nat.reduceAdd]
    refine WL.idx rfl rfl (by omega) hat ?_
    repeat (first | refine W.gob rfl ?_ | refine WL.nil ?_ | refine WL.bt rfl rfl rfl (by omega) ?_ | refine WL.bf rfl rfl rfl (by omega) ?_ | refine WL.e1 rfl ?_ | refine WL.gyes rfl rfl rfl rfl ?_ | refine WL.opno rfl rfl rfl rfl rfl rfl rfl ?_ | refine W.condT rfl ?_)
    refine (?_ : W _ _ _ _ _)
    dsimp only [St.put, Nat.reduceAdd]
    exact W.ret (fin1 rfl rfl rfl rfl)
  by_cases h8 : v.pl = (n : Int) ∧ v.kd < 3
  · obtain ⟨h8, h9⟩ := h8
    rw [hNo2 (by omega)]
    repeat (first | refine W.gob rfl ?_ | refine WL.nil ?_ | refine WL.bt rfl rfl rfl (by omega) ?_ | refine WL.e1 rfl ?_ | refine WL.len rfl rfl (by first | exact List.length_map _ | exact List.length_replicate | rfl) ?_ | refine W.condT rfl ?_)
    refine (?_ : WL _ _ _ _ _ _)
    dsimp only [St.put, Nat.reduceAdd]
    refine WL.idx rfl rfl (by omega) hat ?_
    repeat (first | refine W.gob rfl ?_ | refine WL.nil ?_ | refine WL.bt rfl rfl rfl (by omega) ?_ | refine WL.bf rfl rfl rfl (by omega) ?_ | refine WL.e1 rfl ?_ | refine WL.gyes rfl rfl rfl rfl ?_ | refine W.condT rfl ?_)
    refine (?_ : W _ _ _ _ _)
    dsimp only [St.put, Nat.reduceAdd]
    exact W.ret (fin1 rfl rfl rfl rfl)
  have hB : 1 ≤ v.kd ∧ v.kd ≤ 3 ∧ 0 ≤ v.pl ∧ v.pl ≤ (n : Int) ∧ (v.pl = (n : Int) → v.kd = 3) := by omega
  have hgo2 : (v.pl = (n : Int) ∧ v.kd = 3) ∨ ¬ v.pl = (n : Int) := by omega
  cases k with
  | zero =>
    have hy := vaOk_yes0 (n := (n : Int)) hlt (by rw [hv]; exact hB)
    rcases hgo2 with ⟨g1, g2⟩ | g1
    all_goals
      repeat (first | refine W.gob rfl ?_ | refine WL.nil ?_ | refine WL.bt rfl rfl rfl (by omega) ?_ | refine WL.e1 rfl ?_ | refine WL.len rfl rfl (by first | exact List.length_map _ | exact List.length_replicate | rfl) ?_ | refine W.condT rfl ?_)
      refine (?_ : WL _ _ _ _ _ _)
      dsimp only [St.put, Nat.reduceAdd]
      refine WL.idx rfl rfl (by omega) hat ?_
      repeat (first | refine W.gob rfl ?_ | refine WL.nil ?_ | refine WL.bt rfl rfl rfl (by omega) ?_ | refine WL.bf rfl rfl rfl (by omega) ?_ | refine WL.e1 rfl ?_ | refine WL.gyes rfl rfl rfl rfl ?_ | refine WL.opno rfl rfl rfl rfl rfl rfl rfl ?_ | refine W.condF rfl ?_)
      refine (?_ : W _ _ _ _ _)
      dsimp only [St.put, Nat.reduceAdd]
      refine W.drawK (by kernel_rfl) (by kernel_rfl) ?_
      repeat (first | refine DK.bf rfl rfl (by omega) ?_ | refine DK.ff rfl (by first | (simp; done) | fail) ?_ | refine DK.st rfl ?_ | refine DK.nil ?_)
      repeat (first | refine W.gob rfl ?_ | refine WL.nil ?_ | refine WL.e1 rfl ?_ | refine WL.ar rfl rfl (by unfold I64; omega) ?_ | refine W.condF rfl ?_)
      dsimp only [St.put, Nat.reduceAdd]
      exact ⟨0 + 1, ⟨by omega, fun i hi => by obtain rfl : i = 0 := by omega
                                              exact hy⟩, by omega, (Tr.ren id (by repeat (first | exact trivial | refine ⟨⟨?_, ?_⟩, ?_⟩ | rfl)) (by repeat (first | exact trivial | refine ⟨⟨?_, ?_, ?_⟩, ?_⟩ | rfl)) rfl)⟩
  | succ j =>
    have hat2 := hLat (((j + 1 : Nat) : Int) - 1) j (by omega) (by omega)
    have hy : ((l[j]'(by omega)).pl < v.pl ∨ ((l[j]'(by omega)).pl = v.pl ∧ ¬ (l[j]'(by omega)).kd < 3)) → vaOk l n (j + 1) = true := fun h => vaOk_yes hlt (by rw [hv]; exact hB) (by rw [hv]; exact h)
    have hn : ¬ ((l[j]'(by omega)).pl < v.pl ∨ ((l[j]'(by omega)).pl = v.pl ∧ ¬ (l[j]'(by omega)).kd < 3)) → fitV l n = false := fun h => hNo (vaOk_adj hlt (by rw [hv]; exact h))
    have hnext : vaOk l n (j + 1) = true → ∀ i, i < j + 1 + 1 → vaOk l n i = true := fun hy i hi => by
      by_cases e : i = j + 1
      · subst e; exact hy
      · exact hgood i (by omega)
    obtain ⟨u, hu⟩ : ∃ u, l[j]'(by omega) = u := ⟨_, rfl⟩
    rw [hu] at hat2 hy hn
    by_cases h5 : v.pl < u.pl
    · rw [hn (by omega)]
      rcases hgo2 with ⟨g1, g2⟩ | g1
      all_goals
        repeat (first | refine W.gob rfl ?_ | refine WL.nil ?_ | refine WL.bt rfl rfl rfl (by omega) ?_ | refine WL.e1 rfl ?_ | refine WL.len rfl rfl (by first | exact List.length_map _ | exact List.length_replicate | rfl) ?_ | refine W.condT rfl ?_)
        refine (?_ : WL _ _ _ _ _ _)
        dsimp only [St.put, Nat.reduceAdd]
        refine WL.idx rfl rfl (by omega) hat ?_
        repeat (first | refine W.gob rfl ?_ | refine WL.nil ?_ | refine WL.bt rfl rfl rfl (by omega) ?_ | refine WL.bf rfl rfl rfl (by omega) ?_ | refine WL.e1 rfl ?_ | refine WL.gyes rfl rfl rfl rfl ?_ | refine WL.opno rfl rfl rfl rfl rfl rfl rfl ?_ | refine W.condF rfl ?_)
        refine (?_ : W _ _ _ _ _)
        dsimp only [St.put, Nat.reduceAdd]
        refine W.drawK (by kernel_rfl) (by kernel_rfl) ?_
        repeat (first | refine DK.bt rfl rfl (by omega) ?_ | refine DK.tt rfl (by first | (simp; done) | fail) ?_ | refine DK.st rfl ?_ | refine DK.ar rfl rfl (by unfold I64; omega) ?_)
        refine DK.idx rfl rfl (by omega) hat2 ?_
        repeat (first | refine DK.bt rfl rfl (by omega) ?_ | refine DK.tt rfl (by first | (simp; done) | fail) ?_ | refine DK.st rfl ?_ | refine DK.nil ?_)
        repeat (first | refine W.gob rfl ?_ | refine WL.nil ?_ | refine WL.e1 rfl ?_ | refine W.condT rfl ?_)
        refine (?_ : W _ _ _ _ _)
        dsimp only [St.put, Nat.reduceAdd]
        exact W.ret (fin1 rfl rfl rfl rfl)
    by_cases h7 : v.pl = u.pl
    · by_cases h6 : u.kd < 3
      · rw [hn (by omega)]
        rcases hgo2 with ⟨g1, g2⟩ | g1
        all_goals
          repeat (first | refine W.gob rfl ?_ | refine WL.nil ?_ | refine WL.bt rfl rfl rfl (by omega) ?_ | refine WL.e1 rfl ?_ | refine WL.len rfl rfl (by first | exact List.length_map _ | exact List.length_replicate | rfl) ?_ | refine W.condT rfl ?_)
          refine (?_ : WL _ _ _ _ _ _)
          dsimp only [St.put, Nat.reduceAdd]
          refine WL.idx rfl rfl (by omega) hat ?_
          repeat (first | refine W.gob rfl ?_ | refine WL.nil ?_ | refine WL.bt rfl rfl rfl (by omega) ?_ | refine WL.bf rfl rfl rfl (by omega) ?_ | refine WL.e1 rfl ?_ | refine WL.gyes rfl rfl rfl rfl ?_ | refine WL.opno rfl rfl rfl rfl rfl rfl rfl ?_ | refine W.condF rfl ?_)
          refine (?_ : W _ _ _ _ _)
          dsimp only [St.put, Nat.reduceAdd]
          refine W.drawK (by kernel_rfl) (by kernel_rfl) ?_
          repeat (first | refine DK.bt rfl rfl (by omega) ?_ | refine DK.tt rfl (by first | (simp; done) | fail) ?_ | refine DK.st rfl ?_ | refine DK.ar rfl rfl (by unfold I64; omega) ?_)
          refine DK.idx rfl rfl (by omega) hat2 ?_
          repeat (first | refine DK.bf rfl rfl (by omega) ?_ | refine DK.ff rfl (by first | (simp; done) | fail) ?_ | refine DK.st rfl ?_ | refine DK.ar rfl rfl (by unfold I64; omega) ?_)
          refine DK.idx rfl rfl (by omega) hat2 ?_
          repeat (first | refine DK.bt rfl rfl (by omega) ?_ | refine DK.tt rfl (by first | (simp; done) | fail) ?_ | refine DK.st rfl ?_ | refine DK.ar rfl rfl (by unfold I64; omega) ?_)
          refine DK.idx rfl rfl (by omega) hat2 ?_
          repeat (first | refine DK.bt rfl rfl (by omega) ?_ | refine DK.tt rfl (by first | (simp; done) | fail) ?_ | refine DK.st rfl ?_ | refine DK.nil ?_)
          repeat (first | refine W.gob rfl ?_ | refine WL.nil ?_ | refine WL.e1 rfl ?_ | refine W.condT rfl ?_)
          refine (?_ : W _ _ _ _ _)
          dsimp only [St.put, Nat.reduceAdd]
          exact W.ret (fin1 rfl rfl rfl rfl)
      · have hy := hnext (hy (by omega))
        rcases hgo2 with ⟨g1, g2⟩ | g1
        all_goals
          repeat (first | refine W.gob rfl ?_ | refine WL.nil ?_ | refine WL.bt rfl rfl rfl (by omega) ?_ | refine WL.e1 rfl ?_ | refine WL.len rfl rfl (by first | exact List.length_map _ | exact List.length_replicate | rfl) ?_ | refine W.condT rfl ?_)
          refine (?_ : WL _ _ _ _ _ _)
          dsimp only [St.put, Nat.reduceAdd]
          refine WL.idx rfl rfl (by omega) hat ?_
          repeat (first | refine W.gob rfl ?_ | refine WL.nil ?_ | refine WL.bt rfl rfl rfl (by omega) ?_ | refine WL.bf rfl rfl rfl (by omega) ?_ | refine WL.e1 rfl ?_ | refine WL.gyes rfl rfl rfl rfl ?_ | refine WL.opno rfl rfl rfl rfl rfl rfl rfl ?_ | refine W.condF rfl ?_)
          refine (?_ : W _ _ _ _ _)
          dsimp only [St.put, Nat.reduceAdd]
          refine W.drawK (by kernel_rfl) (by kernel_rfl) ?_
          repeat (first | refine DK.bt rfl rfl (by omega) ?_ | refine DK.tt rfl (by first | (simp; done) | fail) ?_ | refine DK.st rfl ?_ | refine DK.ar rfl rfl (by unfold I64; omega) ?_)
          refine DK.idx rfl rfl (by omega) hat2 ?_
          repeat (first | refine DK.bf rfl rfl (by omega) ?_ | refine DK.ff rfl (by first | (simp; done) | fail) ?_ | refine DK.st rfl ?_ | refine DK.ar rfl rfl (by unfold I64; omega) ?_)
          refine DK.idx rfl rfl (by omega) hat2 ?_
          repeat (first | refine DK.bt rfl rfl (by omega) ?_ | refine DK.tt rfl (by first | (simp; done) | fail) ?_ | refine DK.st rfl ?_ | refine DK.ar rfl rfl (by unfold I64; omega) ?_)
          refine DK.idx rfl rfl (by omega) hat2 ?_
          repeat (first | refine DK.bf rfl rfl (by omega) ?_ | refine DK.ff rfl (by first | (simp; done) | fail) ?_ | refine DK.st rfl ?_ | refine DK.nil ?_)
          repeat (first | refine W.gob rfl ?_ | refine WL.nil ?_ | refine WL.e1 rfl ?_ | refine WL.ar rfl rfl (by unfold I64; omega) ?_ | refine W.condF rfl ?_)
          dsimp only [St.put, Nat.reduceAdd]
          exact ⟨j + 1 + 1, ⟨by omega, hy⟩, by omega, (Tr.ren id (by repeat (first | exact trivial | refine ⟨⟨?_, ?_⟩, ?_⟩ | rfl)) (by repeat (first | exact trivial | refine ⟨⟨?_, ?_, ?_⟩, ?_⟩ | rfl)) rfl)⟩
    · have hy := hnext (hy (by omega))
      rcases hgo2 with ⟨g1, g2⟩ | g1
      all_goals
        repeat (first | refine W.gob rfl ?_ | refine WL.nil ?_ | refine WL.bt rfl rfl rfl (by omega) ?_ | refine WL.e1 rfl ?_ | refine WL.len rfl rfl (by first | exact List.length_map _ | exact List.length_replicate | rfl) ?_ | refine W.condT rfl ?_)
        refine (?_ : WL _ _ _ _ _ _)
        dsimp only [St.put, Nat.reduceAdd]
        refine WL.idx rfl rfl (by omega) hat ?_
        repeat (first | refine W.gob rfl ?_ | refine WL.nil ?_ | refine WL.bt rfl rfl rfl (by omega) ?_ | refine WL.bf rfl rfl rfl (by omega) ?_ | refine WL.e1 rfl ?_ | refine WL.gyes rfl rfl rfl rfl ?_ | refine WL.opno rfl rfl rfl rfl rfl rfl rfl ?_ | refine W.condF rfl ?_)
        refine (?_ : W _ _ _ _ _)
        dsimp only [St.put, Nat.reduceAdd]
        refine W.drawK (by kernel_rfl) (by kernel_rfl) ?_
        repeat (first | refine DK.bt rfl rfl (by omega) ?_ | refine DK.tt rfl (by first | (simp; done) | fail) ?_ | refine DK.st rfl ?_ | refine DK.ar rfl rfl (by unfold I64; omega) ?_)
        refine DK.idx rfl rfl (by omega) hat2 ?_
        repeat (first | refine DK.bf rfl rfl (by omega) ?_ | refine DK.ff rfl (by first | (simp; done) | fail) ?_ | refine DK.st rfl ?_ | refine DK.ar rfl rfl (by unfold I64; omega) ?_)
        refine DK.idx rfl rfl (by omega) hat2 ?_
        repeat (first | refine DK.bf rfl rfl (by omega) ?_ | refine DK.ff rfl (by first | (simp; done) | fail) ?_ | refine DK.st rfl ?_ | refine DK.nil ?_)
        repeat (first | refine W.gob rfl ?_ | refine WL.nil ?_ | refine WL.e1 rfl ?_ | refine WL.ar rfl rfl (by unfold I64; omega) ?_ | refine W.condF rfl ?_)
        dsimp only [St.put, Nat.reduceAdd]
        exact ⟨j + 1 + 1, ⟨by omega, hy⟩, by omega, (Tr.ren id (by repeat (first | exact trivial | refine ⟨⟨?_, ?_⟩, ?_⟩ | rfl)) (by repeat (first | exact trivial | refine ⟨⟨?_, ?_, ?_⟩, ?_⟩ | rfl)) rfl)⟩
theorem rApply_FS (a:Pce) (hO:PcOk a) (h60:a.evs.length≤60) (l:List Va) (hl:VaLs l):Ctr Tryz.prog 19 [ePce a,.ls 8 (l.map eVa)] (.tu [ePce (apP a l),.sc (.int .i64 (apX a l))]):=by
 have hP:=rPlain_FS a hO
 have hln:=hl.n
 by_cases h0:pceE a=0
 rotate_left
 ·rw [(apX_bad h0).1,(apX_bad h0).2]
  obtain ⟨E,hE⟩:∃ E,pceE a=E:=⟨_,rfl⟩
  rw [hE] at hP h0 ⊢
  obtain ⟨Z,hZ⟩:∃ Z,plP a=Z:=⟨_,rfl⟩
  rw [hZ] at hP
  refine Ctr.intro Tryz.func19 rfl Tryz.ntmps19 (Nat.le_of_ble_eq_true rfl) (bd_all rfl) fun w0 F0=>?_;dsimp only [St.init,number,Nat.reduceAdd]
  repeat refine W.go rfl ?_
  refine (?_:WL _ _ _ _ _ _)
  dsimp only [St.put,Nat.reduceAdd]
  refine WL.vl rfl (WV.call rfl (callF Tryz.func30 rfl rfl) rfl rfl hP) ?_
  repeat (first|refine W.gob rfl ?_|refine WL.nil ?_|refine WL.nt rfl rfl rfl (by omega) ?_|refine WL.e1 rfl ?_|refine W.condT rfl ?_)
  refine (?_:W _ _ _ _ _)
  dsimp only [St.put,Nat.reduceAdd]
  refine W.tr (Tr.nilC 1 0 3 rfl rfl rfl) ?_
  refine W.tr (Tr.nilC 1 1 1 rfl rfl rfl) ?_
  refine W.tr (Tr.nilC 1 2 6 rfl rfl rfl) ?_
  exact W.ret (finN rfl rfl rfl rfl)
 have e1:plP a=⟨a.cs,a.st,plE a⟩:=if_pos h0
 have hpl:=plE_length a
 have hFt:=fits_FS l a.evs.length (by omega)
 rw [e1,h0] at hP
 rw [← hpl] at hFt
 cases hfit:fitV l a.evs.length with
 | false =>
  rw [(apX_no h0 hfit).1,(apX_no h0 hfit).2]
  rw [hpl,hfit] at hFt
  rw [← hpl] at hFt
  refine Ctr.intro Tryz.func19 rfl Tryz.ntmps19 (Nat.le_of_ble_eq_true rfl) (bd_all rfl) fun w0 F0=>?_;dsimp only [St.init,number,Nat.reduceAdd]
  repeat refine W.go rfl ?_
  refine (?_:WL _ _ _ _ _ _)
  dsimp only [St.put,Nat.reduceAdd]
  refine WL.vl rfl (WV.call rfl (callF Tryz.func30 rfl rfl) rfl rfl hP) ?_
  repeat (first|refine W.gob rfl ?_|refine WL.nil ?_|refine WL.nf rfl rfl rfl (by omega) ?_|refine WL.e1 rfl ?_|refine WL.len rfl rfl (by first|exact List.length_map _|exact List.length_replicate|rfl) ?_|refine W.condF rfl ?_)
  refine (?_:WL _ _ _ _ _ _)
  dsimp only [St.put,Nat.reduceAdd]
  refine WL.vl rfl (WV.call rfl (callF Tryz.func54 rfl rfl) rfl rfl hFt) ?_
  repeat (first|refine W.gob rfl ?_|refine WL.nil ?_|refine WL.e1 rfl ?_|refine W.condT rfl ?_)
  refine (?_:W _ _ _ _ _)
  dsimp only [St.put,Nat.reduceAdd]
  refine W.tr (Tr.nilC 1 0 3 rfl rfl rfl) ?_
  refine W.tr (Tr.nilC 1 1 1 rfl rfl rfl) ?_
  refine W.tr (Tr.nilC 1 2 6 rfl rfl rfl) ?_
  exact W.ret (finN rfl rfl rfl rfl)
 | true =>
 rw [hpl,hfit] at hFt
 rw [← hpl] at hFt
 have hOk:=apO_ok hO h60 hl
 have hXY:=apX_ok h0 hfit
 have hAP:apP a l=if apX a l=0 then apO a l else noP:=rfl
 obtain ⟨AO_,hAO⟩:∃ z,apO a l=z:=⟨_,rfl⟩
 have hAO2:AO_=⟨a.cs,a.st,apvE (plE a) l⟩:=by rw [← hAO];rfl
 rw [hAO] at hOk hXY hAP
 have hCk:=rCheck_FS AO_ hOk
 have hCp:=pcCopy_FS AO_ hOk
 obtain ⟨X,hX⟩:∃ z,apX a l=z:=⟨_,rfl⟩
 obtain ⟨Y,hY⟩:∃ z,apP a l=z:=⟨_,rfl⟩
 rw [hX] at hXY hAP ⊢
 rw [hY] at hAP ⊢
 obtain ⟨PE,hPE⟩:∃ z,plE a=z:=⟨_,rfl⟩
 rw [hPE] at hP hpl hAO2 hFt
 obtain ⟨LL,hLL⟩:∃ z,l.map eVa=z:=⟨_,rfl⟩
 have hLLl:LL.length=l.length:=by rw [← hLL,List.length_map]
 have hLat:∀ (z:Int) (k:Nat) (hk:k < l.length),z.toNat=k→LL[z.toNat]?=some (eVa l[k]):=fun z k hk e=>by rw [e,← hLL];simp [hk]
 rw [hLL] at hFt ⊢
 refine Ctr.intro Tryz.func19 rfl Tryz.ntmps19 (Nat.le_of_ble_eq_true rfl) (bd_all rfl) fun w0 F0=>?_;dsimp only [St.init,number,Nat.reduceAdd]
 repeat refine W.go rfl ?_
 refine (?_:WL _ _ _ _ _ _)
 dsimp only [St.put,Nat.reduceAdd]
 refine WL.vl rfl (WV.call rfl (callF Tryz.func30 rfl rfl) rfl rfl hP) ?_
 repeat (first|refine W.gob rfl ?_|refine WL.nil ?_|refine WL.nf rfl rfl rfl (by omega) ?_|refine WL.e1 rfl ?_|refine WL.len rfl rfl (by first|exact List.length_map _|exact List.length_replicate|rfl) ?_|refine W.condF rfl ?_)
 refine (?_:WL _ _ _ _ _ _)
 dsimp only [St.put,Nat.reduceAdd]
 refine WL.vl rfl (WV.call rfl (callF Tryz.func54 rfl rfl) rfl rfl hFt) ?_
 repeat (first|refine W.gob rfl ?_|refine WL.nil ?_|refine WL.e1 rfl ?_|refine W.condF rfl ?_)
 refine (?_:W _ _ _ _ _)
 dsimp only [St.put,Nat.reduceAdd]
 refine W.tr (Tr.nilBox (k:=3) (j:=2) 36 6 rfl rfl rfl rfl) ?_
 refine W.loop (fun x:Nat×Nat=>x.1≤PE.length∧x.2≤l.length∧l.drop x.2=(appS PE l x.1).2) (fun x=>⟨[(1,.ls 8 LL),(2,.pt 0 0 0),(4,.pt 1 0 0),(6,.pt 2 0 0),(8,.pt 3 0 0),(9,.sc (.int .i64 ((x.2:Nat):Int))),(10,.sc (.int .i64 ((x.1:Nat):Int)))],[(0,.box 28 (ePce a).cells),(1,.box 28 [.sc (.slice none 0 0),.sc (.slice none 0 0),.sc (.slice none 0 0)]),(2,.box 28 [.ls 3 (a.cs.map eCrs),.ls 1 (a.st.map eInt),.ls 6 (PE.map eEv)]),(3,.box 28 [.ls 3 (a.cs.map eCrs),.ls 1 (a.st.map eInt),.sl 4]),(4,.row 36 6 ((appS PE l x.1).1.map eEv))],5⟩) (fun x=>PE.length - x.1) (0,0) ⟨by omega,by omega,rfl⟩ (Tr.ren id (by repeat (first|exact trivial|refine ⟨⟨?_,?_⟩,?_⟩|rfl)) (by repeat (first|exact trivial|refine ⟨⟨?_,?_,?_⟩,?_⟩|rfl)) rfl) fun x hx=>?_
 obtain ⟨i,at0⟩:=x
 obtain ⟨hi,hat0,hdr⟩:=hx
 dsimp only at hi hat0 hdr ⊢
 have hln1:=appS_len PE l i
 have hS1:(appS PE l (i+1)).1=(appS PE l i).1++outV PE i (appS PE l i).2:=rfl
 have hS2:(appS PE l (i+1)).2=tlV i (appS PE l i).2:=rfl
 rw [← hdr] at hS1 hS2 hln1
 obtain ⟨O,hOq⟩:∃ z,(appS PE l i).1=z:=⟨_,rfl⟩
 rw [hOq] at hS1 hln1 ⊢
 obtain ⟨R,hR⟩:∃ z,l.drop at0=z:=⟨_,rfl⟩
 have hRl:R.length=l.length - at0:=by rw [← hR,List.length_drop]
 have hRat:∀ (j:Nat) (h:j < R.length),R[j]=l[at0+j]'(by omega):=fun j h=>by
  subst hR;simp
 rw [hR] at hS1 hS2 hln1
 repeat (first|refine W.gob rfl ?_|refine WL.nil ?_|refine WL.bt rfl rfl rfl (by omega) ?_|refine WL.e1 rfl ?_|refine WL.len rfl rfl (by first|exact List.length_map _|exact List.length_replicate|rfl) ?_|refine W.condT rfl ?_)
 refine (?_:W _ _ _ _ _)
 dsimp only [St.put,Nat.reduceAdd]
 refine W.loop (fun j:Nat=>j≤R.length∧∀ v∈R.take j,atV i v=true∧v.kd=3) (fun j=>⟨[(1,.ls 8 LL),(2,.pt 0 0 0),(4,.pt 1 0 0),(6,.pt 2 0 0),(8,.pt 3 0 0),(9,.sc (.int .i64 ((at0+j:Nat):Int))),(10,.sc (.int .i64 ((i:Nat):Int)))],[(0,.box 28 (ePce a).cells),(1,.box 28 [.sc (.slice none 0 0),.sc (.slice none 0 0),.sc (.slice none 0 0)]),(2,.box 28 [.ls 3 (a.cs.map eCrs),.ls 1 (a.st.map eInt),.ls 6 (PE.map eEv)]),(3,.box 28 [.ls 3 (a.cs.map eCrs),.ls 1 (a.st.map eInt),.sl 4]),(4,.row 36 6 ((O++vaE (R.take j)).map eEv))],5⟩) (fun j=>R.length - j) 0 ⟨by omega,fun v hv=>by simp at hv⟩ (Tr.ren (fun q=>q) (by repeat (first|exact trivial|refine ⟨⟨?_,?_⟩,?_⟩|rfl)) (by repeat (first|exact trivial|refine ⟨⟨?_,?_,?_⟩,?_⟩|rfl|exact congrArg (fun q=>some (AO.row _ _ q)) (by simp [vaE]))) rfl) fun j hj=>?_
 obtain ⟨hj1,hj2⟩:=hj
 have hvl:=vaE_len (R.take j)
 rw [List.length_take] at hvl
 have hOV:(O++vaE (R.take j)).length≤300:=by rw [List.length_append];omega
 by_cases hgo:∃ h:j < R.length,R[j].kd=3∧R[j].pl=(i:Int)
 ·obtain ⟨hjl,hk3,hpl3⟩:=hgo
  have hat:=hLat ((at0+j:Nat):Int) (at0+j) (by omega) (Int.toNat_natCast _)
  rw [← hRat j hjl] at hat
  have htk:R.take (j+1)=R.take j++[R[j]]:=List.take_succ_eq_append_getElem hjl
  have hvn:=vaE_snoc (R.take j) R[j]
  rw [← htk,if_neg (by omega)] at hvn
  have hall:∀ v∈R.take (j+1),atV i v=true∧v.kd=3:=fun v hv=>by
   rw [htk] at hv
   rcases List.mem_append.1 hv with hv|hv
   ·exact hj2 v hv
   ·rw [List.mem_singleton] at hv;rw [hv];exact ⟨decide_eq_true hpl3,hk3⟩
  obtain ⟨v,hv⟩:∃ v,R[j]=v:=⟨_,rfl⟩
  rw [hv] at hat hk3 hpl3 hvn
  have hrow:(O++vaE (R.take j)).map eEv++[eEv v.ev]=(O++vaE (R.take (j+1))).map eEv:=by rw [hvn];simp
  obtain ⟨OV,hOVq⟩:∃ z,O++vaE (R.take j)=z:=⟨_,rfl⟩
  rw [hOVq] at hOV hrow ⊢
  repeat (first|refine W.gob rfl ?_|refine WL.bt rfl rfl rfl (by omega) ?_|refine WL.e1 rfl ?_|refine WL.gyes rfl rfl rfl rfl ?_|refine WL.len rfl rfl (by first|exact List.length_map _|exact List.length_replicate|rfl) ?_)
  refine (?_:WL _ _ _ _ _ _)
  dsimp only [St.put,Nat.reduceAdd]
  refine WL.idx rfl rfl (by omega) hat ?_
  repeat (first|refine WL.bt rfl rfl rfl (by omega) ?_|refine WL.e1 rfl ?_|refine WL.gyes rfl rfl rfl rfl ?_)
  refine (?_:WL _ _ _ _ _ _)
  dsimp only [St.put,Nat.reduceAdd]
  refine WL.idx rfl rfl (by omega) hat ?_
  repeat (first|refine W.gob rfl ?_|refine WL.nil ?_|refine WL.bt rfl rfl rfl (by omega) ?_|refine WL.e1 rfl ?_|refine WL.gyes rfl rfl rfl rfl ?_|refine W.condT rfl ?_)
  refine (?_:W _ _ _ _ _)
  dsimp only [St.put,Nat.reduceAdd]
  refine W.dmT 10 [3] (by kernel_rfl) (by kernel_rfl) (by kernel_rfl) (by kernel_rfl) (by kernel_rfl) (by repeat constructor) ?_
  repeat refine DMK.st rfl rfl ?_
  refine DMK.idx rfl rfl (by omega) hat ?_
  repeat (first|refine DMK.st rfl rfl ?_|refine DMK.bd rfl rfl rfl (by repeat constructor) ?_|refine DMK.ap rfl rfl (by first|omega|(simp;done)|(simp;omega)) (by repeat constructor) ?_|refine DMK.nil ?_)
  refine ⟨rfl,?_⟩
  repeat (first|refine W.go rfl ?_|refine WL.ev rfl ?_|refine WL.ar rfl rfl (by unfold I64;omega) ?_)
  dsimp only [St.put,Nat.reduceAdd]
  exact ⟨j+1,⟨by omega,hall⟩,by omega,(Tr.ren (fun q=>bif Nat.beq q 4 then 6 else q) (by repeat (first|exact trivial|refine ⟨⟨?_,?_⟩,?_⟩|rfl)) (by repeat (first|exact trivial|refine ⟨⟨?_,?_,?_⟩,?_⟩|rfl|exact congrArg (fun q=>some (AO.row _ _ q)) hrow)) rfl)⟩
 refine W.seq ?_
 refine W.seqM ⟨[(57,.sc (.bool false)),(1,.ls 8 LL),(2,.pt 0 0 0),(4,.pt 1 0 0),(6,.pt 2 0 0),(8,.pt 3 0 0),(9,.sc (.int .i64 ((at0+j:Nat):Int))),(10,.sc (.int .i64 ((i:Nat):Int)))],[(0,.box 28 (ePce a).cells),(1,.box 28 [.sc (.slice none 0 0),.sc (.slice none 0 0),.sc (.slice none 0 0)]),(2,.box 28 [.ls 3 (a.cs.map eCrs),.ls 1 (a.st.map eInt),.ls 6 (PE.map eEv)]),(3,.box 28 [.ls 3 (a.cs.map eCrs),.ls 1 (a.st.map eInt),.sl 4]),(4,.row 36 6 ((O++vaE (R.take j)).map eEv))],5⟩ ?_ ?_
 ·by_cases hjl:j < R.length
  ·have hat:=hLat ((at0+j:Nat):Int) (at0+j) (by omega) (Int.toNat_natCast _)
   rw [← hRat j hjl] at hat
   have hno:¬ R[j].kd=3∨(R[j].kd=3∧¬ R[j].pl=(i:Int)):=by
    by_cases h:R[j].kd=3
    ·exact .inr ⟨h,fun h2=>hgo ⟨hjl,h,h2⟩⟩
    ·exact .inl h
   obtain ⟨v,hv⟩:∃ v,R[j]=v:=⟨_,rfl⟩
   rw [hv] at hat hno
   rcases hno with h|⟨h,h2⟩
   ·repeat (first|refine W.gob rfl ?_|refine WL.bt rfl rfl rfl (by omega) ?_|refine WL.e1 rfl ?_|refine WL.gyes rfl rfl rfl rfl ?_|refine WL.len rfl rfl (by first|exact List.length_map _|exact List.length_replicate|rfl) ?_)
    refine (?_:WL _ _ _ _ _ _)
    dsimp only [St.put,Nat.reduceAdd]
    refine WL.idx rfl rfl (by omega) hat ?_
    repeat (first|refine WL.nil ?_|refine WL.bf rfl rfl rfl (by omega) ?_|refine WL.e1 rfl ?_|refine WL.gyes rfl rfl rfl rfl ?_|refine WL.opno rfl rfl rfl rfl rfl rfl rfl ?_)
    dsimp only [St.put,Nat.reduceAdd]
    refine (?_:Tr _ _ _)
    exact (Tr.ren id (by repeat (first|exact trivial|refine ⟨⟨?_,?_⟩,?_⟩|rfl)) (by repeat (first|exact trivial|refine ⟨⟨?_,?_,?_⟩,?_⟩|rfl)) rfl)
   ·repeat (first|refine W.gob rfl ?_|refine WL.bt rfl rfl rfl (by omega) ?_|refine WL.e1 rfl ?_|refine WL.gyes rfl rfl rfl rfl ?_|refine WL.len rfl rfl (by first|exact List.length_map _|exact List.length_replicate|rfl) ?_)
    refine (?_:WL _ _ _ _ _ _)
    dsimp only [St.put,Nat.reduceAdd]
    refine WL.idx rfl rfl (by omega) hat ?_
    repeat (first|refine WL.bt rfl rfl rfl (by omega) ?_|refine WL.e1 rfl ?_|refine WL.gyes rfl rfl rfl rfl ?_)
    refine (?_:WL _ _ _ _ _ _)
    dsimp only [St.put,Nat.reduceAdd]
    refine WL.idx rfl rfl (by omega) hat ?_
    repeat (first|refine WL.nil ?_|refine WL.bf rfl rfl rfl (by omega) ?_|refine WL.e1 rfl ?_|refine WL.gyes rfl rfl rfl rfl ?_)
    dsimp only [St.put,Nat.reduceAdd]
    refine (?_:Tr _ _ _)
    exact (Tr.ren id (by repeat (first|exact trivial|refine ⟨⟨?_,?_⟩,?_⟩|rfl)) (by repeat (first|exact trivial|refine ⟨⟨?_,?_,?_⟩,?_⟩|rfl)) rfl)
  ·repeat (first|refine W.gob rfl ?_|refine WL.nil ?_|refine WL.bf rfl rfl rfl (by omega) ?_|refine WL.e1 rfl ?_|refine WL.opno rfl rfl rfl rfl rfl rfl rfl ?_|refine WL.len rfl rfl (by first|exact List.length_map _|exact List.length_replicate|rfl) ?_)
   dsimp only [St.put,Nat.reduceAdd]
   refine (?_:Tr _ _ _)
   exact (Tr.ren id (by repeat (first|exact trivial|refine ⟨⟨?_,?_⟩,?_⟩|rfl)) (by repeat (first|exact trivial|refine ⟨⟨?_,?_,?_⟩,?_⟩|rfl)) rfl)
 have hst:stV (R.take j)=true:=by
  unfold stV
  rw [List.all_eq_true]
  exact fun v hv=>by simp [(hj2 v hv).2]
 have hall1:∀ v∈R.take j,atV i v=true:=fun v hv=>(hj2 v hv).1
 by_cases hin:i=PE.length
 ·have hhd:hdV i R=R.take j:=(take_wh (f:=atV i) hj1 hall1 (fun h=>by
   have hb:=fit_b hfit (i:=at0+j) (by omega)
   rw [← hRat j h] at hb
   refine decide_eq_false fun hz=>hgo ⟨h,?_,hz⟩
   exact hb.2.2.2.2 (by omega))).1
  have hap:O++vaE (R.take j)=apvE PE l:=by
   have:apvE PE l=(appS PE l (i+1)).1:=by rw [hin];rfl
   rw [this,hS1,hin,outV_end,← hin,hhd]
  rw [hap] at hOV ⊢
  rw [hAO2] at hCk hCp hXY hAP
  obtain ⟨AV_,hAV⟩:∃ z,apvE PE l=z:=⟨_,rfl⟩
  rw [hAV] at hCk hCp hXY hAP ⊢
  repeat (first|refine W.gob rfl ?_|refine WL.nil ?_|refine WL.bt rfl rfl rfl (by omega) ?_|refine WL.e1 rfl ?_|refine WL.len rfl rfl (by first|exact List.length_map _|exact List.length_replicate|rfl) ?_|refine W.condT rfl ?_|refine W.condF rfl ?_)
  refine (?_:WL _ _ _ _ _ _)
  dsimp only [St.put,Nat.reduceAdd]
  refine WL.tr (Tr.freeze 4 rfl) ?_
  refine WL.vl rfl (WV.call rfl (callF Tryz.func17 rfl rfl) rfl rfl hCp) ?_
  repeat (first|refine W.gob rfl ?_|refine WL.nil ?_|refine WL.e1 rfl ?_)
  refine (?_:WL _ _ _ _ _ _)
  dsimp only [St.put,Nat.reduceAdd]
  refine WL.vl rfl (WV.call rfl (callF Tryz.func28 rfl rfl) rfl rfl hCk) ?_
  rw [← hXY]
  by_cases hz:X=0
  ·rw [if_pos hz] at hAP
   rw [hAP,hz]
   repeat (first|refine W.gob rfl ?_|refine WL.nil ?_|refine WL.nf rfl rfl rfl (by omega) ?_|refine WL.e1 rfl ?_|refine W.condF rfl ?_)
   refine (?_:W _ _ _ _ _)
   dsimp only [St.put,Nat.reduceAdd]
   exact W.ret (finN rfl rfl rfl rfl)
  ·rw [if_neg hz] at hAP
   rw [hAP]
   repeat (first|refine W.gob rfl ?_|refine WL.nil ?_|refine WL.nt rfl rfl rfl (by omega) ?_|refine WL.e1 rfl ?_|refine W.condT rfl ?_)
   refine (?_:W _ _ _ _ _)
   dsimp only [St.put,Nat.reduceAdd]
   refine W.tr (Tr.nilC 1 0 3 rfl rfl rfl) ?_
   refine W.tr (Tr.nilC 1 1 1 rfl rfl rfl) ?_
   refine W.tr (Tr.nilC 1 2 6 rfl rfl rfl) ?_
   exact W.ret (finN rfl rfl rfl rfl)
 have hil:i < PE.length:=by omega
 rw [outV_at hil] at hS1
 by_cases hB:∃ h:j < R.length,R[j].pl=(i:Int)
 ·obtain ⟨hjl,hpj⟩:=hB
  have hk3:¬ R[j].kd=3:=fun h=>hgo ⟨hjl,h,hpj⟩
  have hat:=hLat ((at0+j:Nat):Int) (at0+j) (by omega) (Int.toNat_natCast _)
  rw [← hRat j hjl] at hat
  have htk:R.take (j+1)=R.take j++[R[j]]:=List.take_succ_eq_append_getElem hjl
  have hvn:=vaE_snoc (R.take j) R[j]
  have hsn:=stV_snoc (R.take j) R[j]
  have hb:=fit_b hfit (i:=at0+j) (by omega)
  rw [← hRat j hjl] at hb
  have htw:=take_wh (f:=atV i) (l:=R) (j:=j+1) (by omega) (fun v hv=>by
   rw [htk] at hv
   rcases List.mem_append.1 hv with hv|hv
   ·exact hall1 v hv
   ·rw [List.mem_singleton] at hv;rw [hv];exact decide_eq_true hpj) (fun h=>by
   have:=fit_hd hfit (k:=at0+j) (by omega) (i:=i) (by rw [← hRat j hjl];exact hpj) (by rw [← hRat j hjl];exact hk3) (by omega)
   refine decide_eq_false ?_
   rw [hRat (j+1) h];exact this)
  have hhd:hdV i R=R.take (j+1):=htw.1
  have htl:tlV i R=R.drop (j+1):=htw.2
  rw [hhd] at hS1
  rw [htl] at hS2
  have hsf:stV (R.take (j+1))=false:=by
   rw [htk,hsn,hst]
   simpa using hk3
  rw [hsf] at hS1
  simp only [Bool.false_eq_true,if_false,List.append_nil] at hS1
  have hdr2:l.drop (at0+j+1)=(appS PE l (i+1)).2:=by rw [hS2,← hR,List.drop_drop,Nat.add_assoc]
  rw [← htk] at hvn
  obtain ⟨v,hv⟩:∃ v,R[j]=v:=⟨_,rfl⟩
  rw [hv] at hat hk3 hpj hvn hb
  obtain ⟨V1,hV1⟩:∃ z,vaE (R.take (j+1))=z:=⟨_,rfl⟩
  rw [hV1] at hvn hS1
  by_cases hk1:v.kd=1
  ·rw [if_neg (by omega)] at hvn
   have hrow:(O++vaE (R.take j)).map eEv++[eEv v.ev]=(appS PE l (i+1)).1.map eEv:=by rw [hS1,hvn];simp
   obtain ⟨OV,hOVq⟩:∃ z,O++vaE (R.take j)=z:=⟨_,rfl⟩
   rw [hOVq] at hOV hrow ⊢
   repeat (first|refine W.gob rfl ?_|refine WL.nil ?_|refine WL.bf rfl rfl rfl (by omega) ?_|refine WL.e1 rfl ?_|refine WL.gyes rfl rfl rfl rfl ?_|refine WL.len rfl rfl (by first|exact List.length_map _|exact List.length_replicate|rfl) ?_|refine W.condF rfl ?_)
   refine (?_:WL _ _ _ _ _ _)
   dsimp only [St.put,Nat.reduceAdd]
   refine WL.idx rfl rfl (by omega) hat ?_
   repeat (first|refine W.gob rfl ?_|refine WL.nil ?_|refine WL.nf rfl rfl rfl (by omega) ?_|refine WL.e1 rfl ?_|refine WL.gyes rfl rfl rfl rfl ?_|refine W.condF rfl ?_)
   refine (?_:WL _ _ _ _ _ _)
   dsimp only [St.put,Nat.reduceAdd]
   refine WL.idx rfl rfl (by omega) hat ?_
   repeat (first|refine WL.nil ?_|refine WL.bt rfl rfl rfl (by omega) ?_|refine WL.e1 rfl ?_|refine W.condT rfl ?_)
   refine (?_:W _ _ _ _ _)
   dsimp only [St.put,Nat.reduceAdd]
   refine W.dmT 10 [3] (by kernel_rfl) (by kernel_rfl) (by kernel_rfl) (by kernel_rfl) (by kernel_rfl) (by repeat constructor) ?_
   repeat refine DMK.st rfl rfl ?_
   refine DMK.idx rfl rfl (by omega) hat ?_
   repeat (first|refine DMK.st rfl rfl ?_|refine DMK.bd rfl rfl rfl (by repeat constructor) ?_|refine DMK.ap rfl rfl (by first|omega|(simp;done)|(simp;omega)) (by repeat constructor) ?_|refine DMK.nil ?_)
   refine ⟨rfl,?_⟩
   repeat (first|refine W.go rfl ?_|refine WL.ev rfl ?_|refine WL.ar rfl rfl (by unfold I64;omega) ?_)
   dsimp only [St.put,Nat.reduceAdd]
   exact ⟨(i+1,at0+j+1),⟨by omega,by omega,hdr2⟩,by omega,(Tr.ren (fun q=>bif Nat.beq q 4 then 6 else q) (by repeat (first|exact trivial|refine ⟨⟨?_,?_⟩,?_⟩|rfl)) (by repeat (first|exact trivial|refine ⟨⟨?_,?_,?_⟩,?_⟩|rfl|exact congrArg (fun q=>some (AO.row _ _ q)) hrow)) rfl)⟩
  ·have hk2:v.kd=2:=by omega
   rw [if_pos hk2,List.append_nil] at hvn
   have hrow:(O++vaE (R.take j)).map eEv=(appS PE l (i+1)).1.map eEv:=by rw [hS1,hvn]
   repeat (first|refine W.gob rfl ?_|refine WL.nil ?_|refine WL.bf rfl rfl rfl (by omega) ?_|refine WL.e1 rfl ?_|refine WL.gyes rfl rfl rfl rfl ?_|refine WL.len rfl rfl (by first|exact List.length_map _|exact List.length_replicate|rfl) ?_|refine W.condF rfl ?_)
   refine (?_:WL _ _ _ _ _ _)
   dsimp only [St.put,Nat.reduceAdd]
   refine WL.idx rfl rfl (by omega) hat ?_
   repeat (first|refine W.gob rfl ?_|refine WL.nil ?_|refine WL.nf rfl rfl rfl (by omega) ?_|refine WL.e1 rfl ?_|refine WL.gyes rfl rfl rfl rfl ?_|refine W.condF rfl ?_)
   refine (?_:WL _ _ _ _ _ _)
   dsimp only [St.put,Nat.reduceAdd]
   refine WL.idx rfl rfl (by omega) hat ?_
   repeat (first|refine W.gob rfl ?_|refine WL.nil ?_|refine WL.bf rfl rfl rfl (by omega) ?_|refine WL.e1 rfl ?_|refine WL.ar rfl rfl (by unfold I64;omega) ?_|refine W.condF rfl ?_)
   dsimp only [St.put,Nat.reduceAdd]
   exact ⟨(i+1,at0+j+1),⟨by omega,by omega,hdr2⟩,by omega,(Tr.ren (fun q=>q) (by repeat (first|exact trivial|refine ⟨⟨?_,?_⟩,?_⟩|rfl)) (by repeat (first|exact trivial|refine ⟨⟨?_,?_,?_⟩,?_⟩|rfl|exact congrArg (fun q=>some (AO.row _ _ q)) hrow)) rfl)⟩
 have htw:=take_wh (f:=atV i) hj1 hall1 (fun h=>decide_eq_false fun hz=>hB ⟨h,hz⟩)
 have hhd:hdV i R=R.take j:=htw.1
 have htl:tlV i R=R.drop j:=htw.2
 rw [hhd,hst] at hS1
 simp only [if_true] at hS1
 rw [htl] at hS2
 have hdr2:l.drop (at0+j)=(appS PE l (i+1)).2:=by rw [hS2,← hR,List.drop_drop]
 have hrow:(O++vaE (R.take j)).map eEv++[eEv PE[i]]=(appS PE l (i+1)).1.map eEv:=by rw [hS1];simp
 obtain ⟨OV,hOVq⟩:∃ z,O++vaE (R.take j)=z:=⟨_,rfl⟩
 rw [hOVq] at hOV hrow ⊢
 by_cases hjl:j < R.length
 ·have hat:=hLat ((at0+j:Nat):Int) (at0+j) (by omega) (Int.toNat_natCast _)
  rw [← hRat j hjl] at hat
  have hpj:¬ R[j].pl=(i:Int):=fun h=>hB ⟨hjl,h⟩
  obtain ⟨v,hv⟩:∃ v,R[j]=v:=⟨_,rfl⟩
  rw [hv] at hat hpj
  repeat (first|refine W.gob rfl ?_|refine WL.nil ?_|refine WL.bf rfl rfl rfl (by omega) ?_|refine WL.e1 rfl ?_|refine WL.gyes rfl rfl rfl rfl ?_|refine WL.len rfl rfl (by first|exact List.length_map _|exact List.length_replicate|rfl) ?_|refine W.condF rfl ?_)
  refine (?_:WL _ _ _ _ _ _)
  dsimp only [St.put,Nat.reduceAdd]
  refine WL.idx rfl rfl (by omega) hat ?_
  repeat (first|refine W.gob rfl ?_|refine WL.nil ?_|refine WL.nt rfl rfl rfl (by omega) ?_|refine WL.e1 rfl ?_|refine WL.gyes rfl rfl rfl rfl ?_|refine W.condT rfl ?_)
  refine (?_:W _ _ _ _ _)
  dsimp only [St.put,Nat.reduceAdd]
  refine W.dmT 10 [2,3] (by kernel_rfl) (by kernel_rfl) (by kernel_rfl) (by kernel_rfl) (by kernel_rfl) (by repeat constructor) ?_
  repeat (first|refine DMK.st rfl rfl ?_|refine DMK.idx rfl rfl (by omega) (by first|exact map_at (by omega)|exact map_atZ (by omega) (by omega)) ?_|refine DMK.bd rfl rfl rfl (by repeat constructor) ?_|refine DMK.ap rfl rfl (by first|omega|(simp;done)|(simp;omega)) (by repeat constructor) ?_|refine DMK.nil ?_)
  refine ⟨rfl,?_⟩
  repeat (first|refine W.go rfl ?_|refine WL.ev rfl ?_|refine WL.ar rfl rfl (by unfold I64;omega) ?_)
  dsimp only [St.put,Nat.reduceAdd]
  exact ⟨(i+1,at0+j),⟨by omega,by omega,hdr2⟩,by omega,(Tr.ren (fun q=>bif Nat.beq q 4 then 6 else q) (by repeat (first|exact trivial|refine ⟨⟨?_,?_⟩,?_⟩|rfl)) (by repeat (first|exact trivial|refine ⟨⟨?_,?_,?_⟩,?_⟩|rfl|exact congrArg (fun q=>some (AO.row _ _ q)) hrow)) rfl)⟩
 ·repeat (first|refine W.gob rfl ?_|refine WL.nil ?_|refine WL.bt rfl rfl rfl (by omega) ?_|refine WL.bf rfl rfl rfl (by omega) ?_|refine WL.e1 rfl ?_|refine WL.opno rfl rfl rfl rfl rfl rfl rfl ?_|refine WL.len rfl rfl (by first|exact List.length_map _|exact List.length_replicate|rfl) ?_|refine W.condT rfl ?_|refine W.condF rfl ?_)
  refine (?_:W _ _ _ _ _)
  dsimp only [St.put,Nat.reduceAdd]
  refine W.dmT 10 [2,3] (by kernel_rfl) (by kernel_rfl) (by kernel_rfl) (by kernel_rfl) (by kernel_rfl) (by repeat constructor) ?_
  repeat (first|refine DMK.st rfl rfl ?_|refine DMK.idx rfl rfl (by omega) (by first|exact map_at (by omega)|exact map_atZ (by omega) (by omega)) ?_|refine DMK.bd rfl rfl rfl (by repeat constructor) ?_|refine DMK.ap rfl rfl (by first|omega|(simp;done)|(simp;omega)) (by repeat constructor) ?_|refine DMK.nil ?_)
  refine ⟨rfl,?_⟩
  repeat (first|refine W.go rfl ?_|refine WL.ev rfl ?_|refine WL.ar rfl rfl (by unfold I64;omega) ?_)
  dsimp only [St.put,Nat.reduceAdd]
  exact ⟨(i+1,at0+j),⟨by omega,by omega,hdr2⟩,by omega,(Tr.ren (fun q=>bif Nat.beq q 4 then 6 else q) (by repeat (first|exact trivial|refine ⟨⟨?_,?_⟩,?_⟩|rfl)) (by repeat (first|exact trivial|refine ⟨⟨?_,?_,?_⟩,?_⟩|rfl|exact congrArg (fun q=>some (AO.row _ _ q)) hrow)) rfl)⟩
end Go.Proofs.YtgelfflighgajaaGreatDoor
