/- book.Edition: the program, any piece. -/
import Derived.Test.YtkgnmddakiagbaaGreatDoorEdiYq
import Derived.Test.YtkgnmddakiagbaaGreatDoorSgBYq
set_option linter.unusedVariables false
set_option linter.unusedSimpArgs false
namespace Go.Proofs.YtkgnmddakiagbaaGreatDoor
open Go.RowKit
set_option maxRecDepth 100000
set_option maxHeartbeats 8000000
theorem pEdition_G0 (s : Int) (p : Pce) (hO : PcOk p) (key : Int) (hne : p.evs.length = 0) : Ctg tabB Tryz.prog 24 [ePce p, .sc (.int .i64 key), .sc (.int .u8 s)] (.tu [.sc (.string (bs (edT s p key))), .sc (.int .i64 (edX s p key))]) := by
  have hn3 := hO.n3
  by_cases hs : 1 ≤ s ∧ s ≤ 4
  rotate_left
  · rw [(ed_sys hs).1, (ed_sys hs).2]
    refine Ctg.intro stabB Tryz.func24 rfl Tryz.ntmps24 (Nat.le_of_ble_eq_true rfl) (bd_all rfl) fun w0 F0 hB => ?_; dsimp only [St.init, number, Nat.reduceAdd]
    repeat refine W.go rfl ?_
    refine (?_ : WL _ _ _ _ _ _)
    dsimp only [St.put, Nat.reduceAdd]
    refine WL.vl rfl (WV.call rfl (callF Tryz.func71 rfl rfl) rfl rfl (pSysName_bad s hs)) ?_
    repeat (first | refine W.gob rfl ?_ | refine WL.nil ?_ | refine WL.nt rfl rfl rfl (by omega) ?_ | refine WL.e1 rfl ?_ | refine W.condT rfl ?_)
    refine (?_ : W _ _ _ _ _)
    dsimp only [St.put, Nat.reduceAdd]
    exact W.ret (fin2 rfl rfl rfl rfl rfl rfl rfl)
  have hE := pEngrave_FS p hO key
  by_cases hx : engX p key = 0
  rotate_left
  · rw [(ed_eng hs hx).1, (ed_eng hs hx).2]
    obtain ⟨E, hEq⟩ : ∃ E, engX p key = E := ⟨_, rfl⟩
    rw [hEq] at hx hE ⊢
    refine Ctg.intro stabB Tryz.func24 rfl Tryz.ntmps24 (Nat.le_of_ble_eq_true rfl) (bd_all rfl) fun w0 F0 hB => ?_; dsimp only [St.init, number, Nat.reduceAdd]
    repeat refine W.go rfl ?_
    refine (?_ : WL _ _ _ _ _ _)
    dsimp only [St.put, Nat.reduceAdd]
    refine WL.vl rfl (WV.call rfl (callF Tryz.func71 rfl rfl) rfl rfl (pSysName_ok s hs)) ?_
    repeat (first | refine W.gob rfl ?_ | refine WL.nil ?_ | refine WL.nf rfl rfl rfl (by omega) ?_ | refine WL.e1 rfl ?_ | refine W.condF rfl ?_)
    refine (?_ : WL _ _ _ _ _ _)
    dsimp only [St.put, Nat.reduceAdd]
    refine WL.vl rfl (WV.callG hB rfl (callF Tryz.func21 rfl rfl) rfl rfl hE) ?_
    repeat (first | refine W.gob rfl ?_ | refine WL.nil ?_ | refine WL.nt rfl rfl rfl (by omega) ?_ | refine WL.e1 rfl ?_ | refine W.condT rfl ?_)
    refine (?_ : W _ _ _ _ _)
    dsimp only [St.put, Nat.reduceAdd]
    exact W.ret (fin2 rfl rfl rfl rfl rfl rfl rfl)
  obtain ⟨h0, hsf, hsl⟩ := engL_ok hO hx
  have hlE := (lks_ok hs h0).2
  have hlR := (lks_ok hs h0).1
  have hc := pCan_FS s p hO
  rw [hlE] at hc
  rw [hx] at hE
  by_cases hl : lksR s p = []
  rotate_left
  · rw [(ed_no hs hx hl).1, (ed_no hs hx hl).2]
    have hb : ((0 : Int) == 0 && ((lksR s p).length : Int) == 0) = false := by
      have : (lksR s p).length ≠ 0 := fun h => hl (List.eq_nil_of_length_eq_zero h)
      simp; omega
    rw [hb] at hc
    refine Ctg.intro stabB Tryz.func24 rfl Tryz.ntmps24 (Nat.le_of_ble_eq_true rfl) (bd_all rfl) fun w0 F0 hB => ?_; dsimp only [St.init, number, Nat.reduceAdd]
    repeat refine W.go rfl ?_
    refine (?_ : WL _ _ _ _ _ _)
    dsimp only [St.put, Nat.reduceAdd]
    refine WL.vl rfl (WV.call rfl (callF Tryz.func71 rfl rfl) rfl rfl (pSysName_ok s hs)) ?_
    repeat (first | refine W.gob rfl ?_ | refine WL.nil ?_ | refine WL.nf rfl rfl rfl (by omega) ?_ | refine WL.e1 rfl ?_ | refine W.condF rfl ?_)
    refine (?_ : WL _ _ _ _ _ _)
    dsimp only [St.put, Nat.reduceAdd]
    refine WL.vl rfl (WV.callG hB rfl (callF Tryz.func21 rfl rfl) rfl rfl hE) ?_
    repeat (first | refine W.gob rfl ?_ | refine WL.nil ?_ | refine WL.nf rfl rfl rfl (by omega) ?_ | refine WL.e1 rfl ?_ | refine W.condF rfl ?_)
    refine (?_ : WL _ _ _ _ _ _)
    dsimp only [St.put, Nat.reduceAdd]
    refine WL.vl rfl (WV.call rfl (callF Tryz.func46 rfl rfl) rfl rfl hc) ?_
    repeat (first | refine W.gob rfl ?_ | refine WL.nil ?_ | refine WL.e1 rfl ?_ | refine W.condT rfl ?_)
    refine (?_ : W _ _ _ _ _)
    dsimp only [St.put, Nat.reduceAdd]
    exact W.ret (fin2 rfl rfl rfl rfl rfl rfl rfl)
  rw [(ed_ok hs hx hl).1, (ed_ok hs hx hl).2]
  have hb : ((0 : Int) == 0 && ((lksR s p).length : Int) == 0) = true := by rw [hl]; rfl
  rw [hb] at hc
  have hOn := pOnsets_FS p hO
  rw [if_pos h0, h0] at hOn
  have hMe := pMeasures_FS p hO
  have e4 : meaR p = mea p.evs p.evs.length := if_pos h0
  rw [e4, h0] at hMe
  have hml := mea_length p.evs p.evs.length
  have hmb := mea_bd p.evs p.evs.length
  have hol := onsL_length p.evs p.evs.length
  have hnil : ∀ i (h : i < p.evs.length), lackE s p i p.evs[i] = [] := fun i h => lksTo_none p.evs.length (Nat.le_refl _) (by rw [← hlR]; exact hl) i h h
  obtain ⟨MS, hMS⟩ : ∃ L, mea p.evs p.evs.length = L := ⟨_, rfl⟩
  obtain ⟨L, hL⟩ : ∃ L, engL p key = L := ⟨_, rfl⟩
  rw [hMS] at hMe hml hmb ⊢
  rw [hL] at hE hsf hsl ⊢
  refine Ctg.intro stabB Tryz.func24 rfl Tryz.ntmps24 (Nat.le_of_ble_eq_true rfl) (bd_all rfl) fun w0 F0 hB => ?_; dsimp only [St.init, number, Nat.reduceAdd]
  repeat refine W.go rfl ?_
  refine (?_ : WL _ _ _ _ _ _)
  dsimp only [St.put, Nat.reduceAdd]
  refine WL.vl rfl (WV.call rfl (callF Tryz.func71 rfl rfl) rfl rfl (pSysName_ok s hs)) ?_
  repeat (first | refine W.gob rfl ?_ | refine WL.nil ?_ | refine WL.nf rfl rfl rfl (by omega) ?_ | refine WL.e1 rfl ?_ | refine W.condF rfl ?_)
  refine (?_ : WL _ _ _ _ _ _)
  dsimp only [St.put, Nat.reduceAdd]
  refine WL.vl rfl (WV.callG hB rfl (callF Tryz.func21 rfl rfl) rfl rfl hE) ?_
  repeat (first | refine W.gob rfl ?_ | refine WL.nil ?_ | refine WL.nf rfl rfl rfl (by omega) ?_ | refine WL.e1 rfl ?_ | refine W.condF rfl ?_)
  refine (?_ : WL _ _ _ _ _ _)
  dsimp only [St.put, Nat.reduceAdd]
  refine WL.vl rfl (WV.call rfl (callF Tryz.func46 rfl rfl) rfl rfl hc) ?_
  repeat (first | refine W.gob rfl ?_ | refine WL.nil ?_ | refine WL.e1 rfl ?_ | refine W.condF rfl ?_)
  refine (?_ : WL _ _ _ _ _ _)
  dsimp only [St.put, Nat.reduceAdd]
  refine WL.vl rfl (WV.call rfl (callF Tryz.func72 rfl rfl) rfl rfl hOn) ?_
  repeat (first | refine W.gob rfl ?_ | refine WL.nil ?_ | refine WL.e1 rfl ?_)
  refine (?_ : WL _ _ _ _ _ _)
  dsimp only [St.put, Nat.reduceAdd]
  refine WL.vl rfl (WV.call rfl (callF Tryz.func37 rfl rfl) rfl rfl hMe) ?_
  have hev0 : p.evs = [] := List.eq_nil_of_length_eq_zero hne
  have hB0 : edB s p MS L p.evs.length = [] := by rw [hne]; rfl
  rw [hB0]
  repeat (first | refine W.gob rfl ?_ | refine WL.nil ?_ | refine WL.e1 rfl ?_ | refine WL.len rfl rfl (by first | exact List.length_map _ | exact List.length_replicate | rfl) ?_)
  refine (?_ : W _ _ _ _ _)
  dsimp only [St.put, Nat.reduceAdd]
  refine W.loop (fun k : Nat => k = 0) (fun k => ⟨[(2, .sc (.int .u8 s)), (3, .pt 0 0 0), (16, .pt 1 0 0), (57, .ls 6 (p.evs.map eEv)), (58, .sc (.int .i64 p.evs.length)), (59, .sc (.int .i64 k))], [(0, .box 29 (ePce p).cells), (1, .box 95 [.sc (.pointer none), .sc (.slice none 0 0)])], 2⟩) (fun k => k) 0 rfl (Tr.ren id (by repeat (first | exact trivial | refine ⟨⟨?_, ?_⟩, ?_⟩ | rfl)) (by repeat (first | exact trivial | refine ⟨⟨?_, ?_, ?_⟩, ?_⟩ | rfl)) rfl) fun k hk => ?_
  subst hk
  repeat (first | refine W.gob rfl ?_ | refine WL.nil ?_ | refine WL.bf rfl rfl rfl (by omega) ?_ | refine W.condF rfl ?_)
  refine (?_ : WL _ _ _ _ _ _)
  dsimp only [St.put, Nat.reduceAdd]
  refine WL.vl rfl (WV.box2 rfl (callF Tryz.func50 rfl rfl) rfl rfl fun w b => bldS0 w b _) ?_
  repeat (first | refine WL.nil ?_ | refine WL.e1 rfl ?_)
  refine (?_ : W _ _ _ _ _)
  dsimp only [St.put, Nat.reduceAdd]
  exact W.ret (fin2 rfl rfl rfl rfl rfl rfl rfl)
theorem pEdition_G (s : Int) (p : Pce) (hO : PcOk p) (key : Int) : Ctg tabB Tryz.prog 24 [ePce p, .sc (.int .i64 key), .sc (.int .u8 s)] (.tu [.sc (.string (bs (edT s p key))), .sc (.int .i64 (edX s p key))]) := by
  by_cases h : p.evs.length = 0
  · exact pEdition_G0 s p hO key h
  · exact pEdition_G1 s p hO key (by omega)
end Go.Proofs.YtkgnmddakiagbaaGreatDoor
