/- The column of an event: the program, over trees. -/
import Derived.Test.YtkgnmddakiagbaaGreatDoorCoPZq
import Derived.Deep.Draws
import Derived.OwnWalk
import Derived.Maps.AppendAt
import Derived.Deep.AppendLies
import Derived.Laws.OwnMore
import Derived.WalkKit
import Derived.Handy
import Derived.WalkLawsBesides
import Derived.Test.YtkgnmddakiagbaaGreatDoorProg
import Derived.BigQuiet
import Derived.Deep.QuietTactic
import Derived.Deep.RegionHeld3
import Derived.Shelf.Strings.Builder1
import Derived.Shelf.Strings.Builder2
import Derived.Shelf.Small.Strs
import Derived.Shelf.Strings.BuilderF
import Derived.Shelf.Strings.BuilderK
import Derived.Shelf.Strings.Builder2Cap
import Derived.Shelf.Strconv.Itoa0
import Derived.Shelf.Strconv.Itoa1
import Derived.Shelf.LaysM
import Derived.Shelf.Strconv.Itoa2
import Derived.Shelf.Strconv.Itoa3
import Derived.Shelf.Strings.Search1
import Derived.Shelf.Strings.Search2
import Derived.Shelf.Strings.Search3
import Derived.Shelf.Strings.Cut
import Derived.Shelf.Strings.Count
import Derived.Shelf.Strings.Shaped
import Derived.Shelf.Strings.Prefix
import Derived.Shelf.Bits.Mul64
import Derived.Shelf.Strings.Repeat
import Derived.Shelf.Unicode.DecodeSlow
import Derived.Shelf.Strings.BuilderCap
import Derived.Lib.Hide
import Derived.Deep.MidRow
import Derived.Shelf.Strings.OnBuilder
import Derived.Test.YtkgnmddakiagbaaGreatDoorEUZq
import Derived.Still
import Derived.Lib.FrozenHead
import Derived.Test.YtkgnmddakiagbaaGreatDoorEGZq
import Derived.Deep.RegionWith
import Derived.Deep.DeepCutAuto
import Derived.Laws.StructEq
set_option linter.unusedVariables false
set_option linter.unusedSimpArgs false
namespace Go.Proofs.YtkgnmddakiagbaaGreatDoor
open Go.RowKit
set_option maxRecDepth 100000
set_option maxHeartbeats 4000000
def plV : AV → Option Value
  | .sc v => some v
  | .ag l =>
    match scs l with
    | some xs => some (.agg xs.toArray)
    | none => none
  | _ => none
def plL : List AV → Option (List Value)
  | [] => some []
  | x :: r =>
    match plV x, plL r with
    | some v, some l => some (v :: l)
    | _, _ => none
theorem plV_of {F : View} {av : AV} {u v : Value} (h : plV av = some v) (r : RP F av u) : u = v := by
  cases av with
  | sc x => cases h; exact r.sc_eq
  | ag l =>
    cases hs : scs l with
    | none => simp [plV, hs] at h
    | some xs =>
      simp [plV, hs] at h
      subst h
      obtain ⟨cs, rfl, h1, h2⟩ := (R.pu (G := ⟨F, fun _ => 0, fun _ => 0, fun _ => undef, fun _ _ => False⟩) _ _ r).ag_of
      have e : cs.toList = xs := scs_of (G := ⟨F, fun _ => 0, fun _ => 0, fun _ => undef, fun _ _ => False⟩) hs (by simpa using h1) (fun i av u p q => h2 i av u p (by simpa using q))
      subst e
      simp
  | _ => cases h
theorem plL_of {F : View} : ∀ {l : List AV} {xs vs : List Value}, plL l = some xs → vs.length = l.length → (∀ (i : Nat) av u, l[i]? = some av → vs[i]? = some u → RP F av u) → vs = xs
  | [], xs, vs, h, hl, _ => by cases h; exact List.eq_nil_of_length_eq_zero hl
  | x :: r, xs, [], h, hl, _ => by cases hl
  | x :: r, xs, v :: vs, h, hl, hq => by
    unfold plL at h
    split at h
    · rename_i u l h1 h2
      cases h
      rw [plV_of h1 (hq 0 x v rfl rfl), plL_of (F := F) (vs := vs) h2 (by simpa using hl) fun i av u a b => hq (i + 1) av u (by simpa using a) (by simpa using b)]
    · cases h
theorem Ctr.of_pl {P : Program} {f : FuncId} {args : List AV} {xs : List Value} {res : AV} {v : Value} (hs : plL args = some xs) (hv : ∀ F, RP F res v) (h : ∀ w, Calls P f xs.toArray w (Ret v w)) : Ctr P f args res := by
  intro w F vs hF hR
  have := plL_of hs hR.1 hR.2
  subst this
  exact (h w).mono fun e w' ⟨he, hb⟩ => ⟨v, F, he, hb, fun _ _ h => h, fun p u x => by rw [hb.cell (cell_block (hF p u x))]; exact hF p u x, fun _ _ h => .inl h, hv F⟩
theorem rp_tu2 {F : View} {u v : Value} : RP F (.tu [.sc u, .sc v]) (.tuple #[u, v]) := .tu _ _ rfl fun i av x a b => by
  match i with
  | 0 => cases a; cases b; exact .sc _
  | 1 => cases a; cases b; exact .sc _
  | i + 2 => simp at a
def eSg (e : Ev) : AV := .ag [.sc (.int .i64 e.val), .sc (.bool e.dot), .sc (.bool e.three)]
theorem sg_cases {v : Int} {d t : Bool} (h : sgOk v d t = true) : 0 ≤ v ∧ v ≤ 7 ∧ sgI d t ≤ 2 ∧ d = sgD (sgI d t) ∧ t = sgT (sgI d t) ∧ (v = 0 → sgI d t = 0) := by
  have hv : 0 ≤ v ∧ v ≤ 7 := by
    unfold sgOk at h
    simp only [Bool.or_eq_true, Bool.and_eq_true, beq_iff_eq, decide_eq_true_eq] at h
    omega
  refine ⟨hv.1, hv.2, ?_⟩
  cases d <;> cases t
  · exact ⟨by decide, rfl, rfl, fun _ => rfl⟩
  · refine ⟨by decide, rfl, rfl, fun h0 => ?_⟩
    subst h0; cases h
  · refine ⟨by decide, rfl, rfl, fun h0 => ?_⟩
    subst h0; cases h
  · exfalso
    unfold sgOk at h
    by_cases h1 : 1 ≤ v <;> by_cases h2 : v ≤ 7 <;> simp [h1, h2] at h
theorem timeWord_FS (s : Int) (hs : 1 ≤ s ∧ s ≤ 4) (e : Ev) (h : sgOk e.val e.dot e.three = true) : Ctr Tryz.prog 122 [.sc (sysV s), eSg e] (.tu [.sc (.string (bs (tW e.val (sgI e.dot e.three)))), .sc (.bool (tOk s e.val (sgI e.dot e.three)))]) := by
  obtain ⟨h1, h2, h3, h4, h5, h6⟩ := sg_cases h
  obtain ⟨i, hi⟩ : ∃ i, sgI e.dot e.three = i := ⟨_, rfl⟩
  rw [hi] at h3 h4 h5 h6 ⊢
  unfold eSg
  rw [h4, h5]
  rcases sys_cases hs with rfl | rfl | rfl | rfl
  · exact Ctr.of_pl rfl (fun _ => rp_tu2) fun w => ptw_1 e.val i w ⟨h1, h2⟩ h3 h6
  · exact Ctr.of_pl rfl (fun _ => rp_tu2) fun w => ptw_2 e.val i w ⟨h1, h2⟩ h3 h6
  · exact Ctr.of_pl rfl (fun _ => rp_tu2) fun w => ptw_3 e.val i w ⟨h1, h2⟩ h3 h6
  · exact Ctr.of_pl rfl (fun _ => rp_tu2) fun w => ptw_4 e.val i w ⟨h1, h2⟩ h3 h6
theorem cell_FS (s : Int) (hs : 1 ≤ s ∧ s ≤ 4) (x : Stp) (L : Int) (hc : 1 ≤ x.1 ∧ x.1 ≤ 14) (hf : 0 ≤ x.2.1 ∧ x.2.1 ≤ 18) (hr : 0 ≤ x.2.2.1 ∧ x.2.2.1 ≤ 3) (hg : 0 ≤ x.2.2.2.1 ∧ x.2.2.2.1 ≤ 4) (hh : 0 ≤ x.2.2.2.2 ∧ x.2.2.2.2 ≤ 15) :
    Ctr Tryz.prog 115 [.sc (sysV s), .ag (eStp x), .sc (.int .i64 L)] (.tu [.sc (.string (bs (cellS s x.1 x.2.1 x.2.2.1 x.2.2.2.1 x.2.2.2.2 L))), .sc (.bool (cellOk s x.1 x.2.1 x.2.2.1 x.2.2.2.1 x.2.2.2.2 L))]) := by
  rcases sys_cases hs with rfl | rfl | rfl | rfl
  · exact Ctr.of_pl rfl (fun _ => rp_tu2) fun w => pcell_1 _ _ _ _ _ _ w hc hf hr hg hh
  · exact Ctr.of_pl rfl (fun _ => rp_tu2) fun w => pcell_2 _ _ _ _ _ _ w hc hf hr hg hh
  · exact Ctr.of_pl rfl (fun _ => rp_tu2) fun w => pcell_3 _ _ _ _ _ _ w hc hf hr hg hh
  · exact Ctr.of_pl rfl (fun _ => rp_tu2) fun w => pcell_4 _ _ _ _ _ _ w hc hf hr hg hh
theorem pLong_FS (p : Pce) (hO : PcOk p) (i x : Int) : Ctr Tryz.prog 124 [ePce p, .sc (.int .i64 i), .sc (.int .i64 x)] (.sc (.int .i64 (longestN p.evs i x))) :=
  Ctr.of_pc (pre := []) (post := [.sc (.int .i64 i), .sc (.int .i64 x)]) rfl rfl (fun _ => .sc _) fun w M hM => pLongest_any M p i x w hM hO
theorem pstaff_FS (cs : List (Int × Int × Bool)) (st : List Int) (h : cs.length ≤ 64) : Ctr Tryz.prog 123 [.ag (eIns cs st)] (.sc (.int .i64 ((min cs.length 6 : Nat) : Int))) := by
  refine Ctr.intro Tryz.func123 rfl Tryz.ntmps123 (Nat.le_of_ble_eq_true rfl) (bd_all rfl) fun w0 F0 => ?_; dsimp only [St.init, number, Nat.reduceAdd]
  repeat (first | refine W.go rfl ?_ | refine WL.len rfl rfl (by first | exact List.length_map _ | exact List.length_replicate | rfl) ?_)
  refine (?_ : WL _ _ _ _ _ _)
  dsimp only [St.put, Nat.reduceAdd]
  refine WL.mm rfl rfl (show _ = ((min cs.length 6 : Nat) : Int) by split <;> omega) ?_
  repeat refine WL.ev rfl ?_
  refine (?_ : W _ _ _ _ _)
  dsimp only [St.put, Nat.reduceAdd]
  exact W.ret (fin1 rfl rfl rfl rfl)
theorem WV.sys {P : Program} {C : Cx} {o : Oper} {σ : St} {s : Int} (hs : 1 ≤ s ∧ s ≤ 4) {x : Operand} {name : String} {xs : Array Operand} {ts : Array TypeId} {args : List AV} {res : AV} (fs : Int → FuncId) (ho : o.op = .call { callee := .invoke x name, args := xs, argTypes := ts })
    (hr : σ.ev x = some (.sc (sysV s)))
    (h1 : ∀ vs w, (callMethod (sysV 1) name vs).run P w = .ok (.enter (fs 1) (#[.agg #[]] ++ vs)) w) (h2 : ∀ vs w, (callMethod (sysV 2) name vs).run P w = .ok (.enter (fs 2) (#[.agg #[]] ++ vs)) w)
    (h3 : ∀ vs w, (callMethod (sysV 3) name vs).run P w = .ok (.enter (fs 3) (#[.agg #[]] ++ vs)) w) (h4 : ∀ vs w, (callMethod (sysV 4) name vs).run P w = .ok (.enter (fs 4) (#[.agg #[]] ++ vs)) w)
    (hx : σ.evs xs.toList = some args) (hp : args.all AV.pu2 = true) (h : Ctr P (fs s) (.ag [] :: args) res) : WV P C o σ res := by
  rcases sys_cases hs with rfl | rfl | rfl | rfl
  · exact WV.inv (l := []) ho hr h1 rfl hx hp h
  · exact WV.inv (l := []) ho hr h2 rfl hx hp h
  · exact WV.inv (l := []) ho hr h3 rfl hx hp h
  · exact WV.inv (l := []) ho hr h4 rfl hx hp h
def lineF (s : Int) : FuncId := if s = 1 then 270 else if s = 2 then 285 else if s = 3 then 293 else 300
def behindF (s : Int) : FuncId := if s = 1 then 272 else if s = 2 then 287 else if s = 3 then 295 else 302
theorem line_FS (s : Int) (hs : 1 ≤ s ∧ s ≤ 4) (c n : Int) (hc : 1 ≤ c ∧ c ≤ 14) (hn : 0 ≤ n ∧ n ≤ 6) : Ctr Tryz.prog (lineF s) [.ag [], .sc (.int .i64 c), .sc (.int .i64 n)] (.sc (.int .i64 (lineV s c n))) := by
  rcases sys_cases hs with rfl | rfl | rfl | rfl
  · show Ctr Tryz.prog 270 _ _
    refine Ctr.intro Tryz.func270 rfl Tryz.ntmps270 (Nat.le_of_ble_eq_true rfl) (bd_all rfl) fun w0 F0 => ?_; dsimp only [St.init, number, Nat.reduceAdd]
    repeat refine W.go rfl ?_
    refine (?_ : W _ _ _ _ _)
    dsimp only [St.put, Nat.reduceAdd]
    exact W.ret (fin1 rfl rfl rfl rfl)
  · show Ctr Tryz.prog 285 _ _
    refine Ctr.intro Tryz.func285 rfl Tryz.ntmps285 (Nat.le_of_ble_eq_true rfl) (bd_all rfl) fun w0 F0 => ?_; dsimp only [St.init, number, Nat.reduceAdd]
    repeat (first | refine W.go rfl ?_ | refine WL.ev rfl ?_ | refine WL.ar rfl rfl (by unfold I64; omega) ?_)
    refine (?_ : W _ _ _ _ _)
    dsimp only [St.put, Nat.reduceAdd]
    exact W.ret (fin1 rfl rfl rfl rfl)
  · show Ctr Tryz.prog 293 _ _
    refine Ctr.intro Tryz.func293 rfl Tryz.ntmps293 (Nat.le_of_ble_eq_true rfl) (bd_all rfl) fun w0 F0 => ?_; dsimp only [St.init, number, Nat.reduceAdd]
    repeat refine W.go rfl ?_
    refine (?_ : W _ _ _ _ _)
    dsimp only [St.put, Nat.reduceAdd]
    exact W.ret (fin1 rfl rfl rfl rfl)
  · show Ctr Tryz.prog 300 _ _
    refine Ctr.intro Tryz.func300 rfl Tryz.ntmps300 (Nat.le_of_ble_eq_true rfl) (bd_all rfl) fun w0 F0 => ?_; dsimp only [St.init, number, Nat.reduceAdd]
    repeat refine W.go rfl ?_
    refine (?_ : W _ _ _ _ _)
    dsimp only [St.put, Nat.reduceAdd]
    exact W.ret (fin1 rfl rfl rfl rfl)
theorem behind_FS (s : Int) (hs : 1 ≤ s ∧ s ≤ 4) : Ctr Tryz.prog (behindF s) [.ag []] (.sc (.bool (!decide (s = 2)))) := by
  rcases sys_cases hs with rfl | rfl | rfl | rfl
  · show Ctr Tryz.prog 272 _ _
    refine Ctr.intro Tryz.func272 rfl Tryz.ntmps272 (Nat.le_of_ble_eq_true rfl) (bd_all rfl) fun w0 F0 => ?_; dsimp only [St.init, number, Nat.reduceAdd]
    repeat refine W.go rfl ?_
    refine (?_ : W _ _ _ _ _)
    dsimp only [St.put, Nat.reduceAdd]
    exact W.ret (fin1 rfl rfl rfl rfl)
  · show Ctr Tryz.prog 287 _ _
    refine Ctr.intro Tryz.func287 rfl Tryz.ntmps287 (Nat.le_of_ble_eq_true rfl) (bd_all rfl) fun w0 F0 => ?_; dsimp only [St.init, number, Nat.reduceAdd]
    repeat refine W.go rfl ?_
    refine (?_ : W _ _ _ _ _)
    dsimp only [St.put, Nat.reduceAdd]
    exact W.ret (fin1 rfl rfl rfl rfl)
  · show Ctr Tryz.prog 295 _ _
    refine Ctr.intro Tryz.func295 rfl Tryz.ntmps295 (Nat.le_of_ble_eq_true rfl) (bd_all rfl) fun w0 F0 => ?_; dsimp only [St.init, number, Nat.reduceAdd]
    repeat refine W.go rfl ?_
    refine (?_ : W _ _ _ _ _)
    dsimp only [St.put, Nat.reduceAdd]
    exact W.ret (fin1 rfl rfl rfl rfl)
  · show Ctr Tryz.prog 302 _ _
    refine Ctr.intro Tryz.func302 rfl Tryz.ntmps302 (Nat.le_of_ble_eq_true rfl) (bd_all rfl) fun w0 F0 => ?_; dsimp only [St.init, number, Nat.reduceAdd]
    repeat refine W.go rfl ?_
    refine (?_ : W _ _ _ _ _)
    dsimp only [St.put, Nat.reduceAdd]
    exact W.ret (fin1 rfl rfl rfl rfl)
/-! strings.Join. -/
def eStr (t : List UInt8) : List AV := [.sc (.string (bs t))]
theorem join_FS (l : List (List UInt8)) (h1 : l.length ≤ 1000) (h2 : (joinW l).length ≤ 1000000) : Ctr Tryz.prog 74 [.ls 1 (l.map eStr), .sc (.string (bs [32]))] (.sc (.string (bs (joinW l)))) := by
  intro w F vs hF hR
  match vs, hR.1 with
  | [v, v2], _ =>
    obtain rfl := (hR.2 1 _ v2 rfl rfl).sc_eq
    obtain ⟨A, c, rfl, hrd, hc⟩ := rd_of_rp (n := 1) (f := fun t => [Value.string (bs t)]) hF (by omega) (fun _ => rfl) (fun x j u h => by
      match j with
      | 0 => cases h; rfl
      | j + 1 => simp at h) (hR.2 0 _ v rfl rfl)
    have fin : ∀ e w', e = Ending.returned (.string (bs (joinW l))) → Below w.heap.size w w' → ∃ v F', e = .returned v ∧ Below w.heap.size w w' ∧ View.le F F' ∧ (∀ p u, F' p = some u → w'.cell? p = some u) ∧ (∀ p u, F' p = some u → F p = some u ∨ w.heap.size ≤ p.block) ∧ RP F' (.sc (.string (bs (joinW l)))) v :=
      fun e w' he hb => ⟨_, F, he, hb, fun _ _ h => h, fun p u x => by rw [hb.cell (cell_block (hF p u x))]; exact hF p u x, fun _ _ h => .inl h, .sc _⟩
    by_cases h0 : l.length = 0
    · obtain rfl := List.eq_nil_of_length_eq_zero h0
      exact (strings_Join_none A c (bs [32]) w).mono fun e w' ⟨he, hw⟩ => fin e w' he (hw ▸ Below.refl _ _)
    · obtain ⟨ad, had, hlt, hcell⟩ := hrd (by simp; omega)
      subst had
      have hsp : ad.spot = none := by
        have := hcell 0 _ (List.getElem?_eq_getElem (by simp; omega)) 0 (.string (bs (l[0]'(by omega)))) (by simp)
        rw [Nat.zero_mul, Nat.add_zero, add_zero'] at this
        unfold World.cell? at this
        cases hs : ad.spot with
        | none => rfl
        | some q =>
          split at this
          · rw [hs] at this; simp at this
          · cases this
      obtain ⟨bk, off, sp⟩ := ad
      simp only at hsp hlt
      subst hsp
      have hm : (l.map bs).map (fun b => b.data.toList) = l := by
        rw [List.map_map]
        exact (List.map_congr_left fun t _ => rfl).trans (List.map_id l)
      have := strings_Join bk off c (l.map bs) (bs [32]) w (fun j x hx => ?_) hlt (by simp; omega) (by simpa using hc) (by rw [hm, bs_data, joinW_lib]; omega)
      · rw [hm, bs_data, joinW_lib, List.length_map] at this
        exact this.mono fun e w' ⟨he, hb⟩ => fin e w' he hb
      · rw [List.getElem?_map] at hx
        cases hq : l[j]? with
        | none => simp [hq] at hx
        | some t =>
          rw [hq] at hx
          obtain rfl : bs t = x := by simpa using hx
          have := hcell j _ (by rw [List.getElem?_map, hq]; rfl) 0 (.string (bs t)) rfl
          rw [add_flat, Nat.mul_one, Nat.add_zero] at this
          exact this
end Go.Proofs.YtkgnmddakiagbaaGreatDoor
