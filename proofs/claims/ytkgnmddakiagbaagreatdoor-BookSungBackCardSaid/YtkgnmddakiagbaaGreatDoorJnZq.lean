/- strings.Join: its contract. (The tool does not lay it here, for its closure's table of numbers; the bodies are the same.) -/
import Derived.Test.YtkgnmddakiagbaaGreatDoorGdZq
import Derived.Still
import Derived.Lib.Hide
import Derived.Lib.FrozenHead
import Derived.Deep.MidRow
import Derived.Deep.Draws
import Derived.OwnWalk
import Derived.Maps.AppendAt
import Derived.Deep.AppendLies
import Derived.Laws.OwnMore
import Derived.WalkKit
import Derived.Handy
import Derived.WalkLawsBesides
import Derived.Test.YtkgnmddakiagbaaGreatDoorCalmZq
import Derived.Test.YtkgnmddakiagbaaGreatDoorChPZq
import Derived.Test.YtkgnmddakiagbaaGreatDoorProg
import Derived.BigQuiet
import Derived.Deep.QuietTactic
import Derived.Deep.RegionHeld3
import Derived.Shelf.Strings.Builder1
import Derived.Shelf.Strings.Builder2
import Derived.Shelf.Small.Strs
import Derived.Shelf.Strings.BuilderF
import Derived.Shelf.Strings.BuilderK
import Derived.Shelf.Strings.Builder2Cap
import Derived.Shelf.Strconv.Itoa0
import Derived.Shelf.Strconv.Itoa1
import Derived.Shelf.LaysM
import Derived.Shelf.Strconv.Itoa2
import Derived.Shelf.Strconv.Itoa3
import Derived.Shelf.Strings.Search1
import Derived.Shelf.Strings.Search2
import Derived.Shelf.Strings.Search3
import Derived.Shelf.Strings.Cut
import Derived.Shelf.Strings.Count
import Derived.Shelf.Strings.Shaped
import Derived.Shelf.Strings.Prefix
import Derived.Shelf.Bits.Mul64
import Derived.Shelf.Strings.Repeat
import Derived.Shelf.Unicode.DecodeSlow
import Derived.Shelf.Strings.BuilderCap
import Derived.Test.YtkgnmddakiagbaaGreatDoorBdZq
import Derived.Test.YtkgnmddakiagbaaGreatDoorFAZq
import Derived.Test.YtkgnmddakiagbaaGreatDoorShelfZq
import Derived.Shelf.Strings.OnBuilder
set_option linter.unusedVariables false
set_option linter.unusedSimpArgs false
namespace Go.Proofs.YtkgnmddakiagbaaGreatDoor
open Go.RowKit
def eStp (x : Stp) : List AV := [.sc (.int .i64 x.1), .sc (.int .i64 x.2.1), .sc (.int .i64 x.2.2.1), .sc (.int .i64 x.2.2.2.1), .sc (.int .i64 x.2.2.2.2)]
def eStps (l : List Stp) : AV := .ls 5 (l.map eStp)
def eEv (e : Ev) : List AV := [.sc (.bool e.bar), .sc (.int .i64 e.val), .sc (.bool e.dot), .sc (.bool e.three), .sc (.bool e.tie), eStps e.stops]
def eCrs (x : Int × Int × Bool) : List AV := [.sc (.int .i64 x.1), .sc (.int .i64 x.2.1), .sc (.bool x.2.2)]
def eInt (x : Int) : List AV := [.sc (.int .i64 x)]
def eIns (cs : List (Int × Int × Bool)) (st : List Int) : List AV := [.ls 3 (cs.map eCrs), .ls 1 (st.map eInt)]
def ePce (p : Pce) : AV := .ag [.ls 3 (p.cs.map eCrs), .ls 1 (p.st.map eInt), .ls 6 (p.evs.map eEv)]
theorem map_at {α β : Type} {f : α → β} {l : List α} {k : Nat} (h : k < l.length) : (l.map f)[((k : Nat) : Int).toNat]? = some (f l[k]) := by rw [Int.toNat_natCast]; simp [h]
theorem map_atZ {α β : Type} {f : α → β} {l : List α} {z : Int} (h0 : 0 ≤ z) (h : z < l.length) : (l.map f)[z.toNat]? = some (f (l[z.toNat]'(by omega))) := by
  have : z.toNat < l.length := by omega
  simp [this]
theorem bd_all {l : List AV} (h : l.all AV.pu2 = true) : ∀ (i : Nat) av, l[i]? = some av → Bd 0 av := fun i av x => pu2_bd (List.all_eq_true.1 h av (List.mem_of_getElem? x)) 0
theorem fin1 {P : Program} {fn : Func} {C : Cx} {σ : St} {t : Tmp} {av res : AV} (h : fn.results = #[.tmp t]) (ht : look t σ.t = some av) (he : av = res) (hp : res.pu2 = true) : QFin P fn C res .ret σ :=
  ⟨.inr rfl, Fin.one h (he ▸ ht) (pu2_bd hp 0)⟩
theorem fin2 {P : Program} {fn : Func} {C : Cx} {σ : St} {t u : Tmp} {a1 a2 r1 r2 : AV} (h : fn.results = #[.tmp t, .tmp u]) (h1 : look t σ.t = some a1) (h2 : look u σ.t = some a2) (e1 : a1 = r1) (e2 : a2 = r2) (p1 : r1.pu2 = true) (p2 : r2.pu2 = true) : QFin P fn C (.tu [r1, r2]) .ret σ :=
  ⟨.inr rfl, Fin.two h (e1 ▸ h1) (e2 ▸ h2) (pu2_bd p1 0) (pu2_bd p2 0)⟩
theorem sc_bool {a b : Bool} (h : a = b) : AV.sc (.bool a) = .sc (.bool b) := by rw [h]
theorem sc_int {k : IntKind} {a b : Int} (h : a = b) : AV.sc (.int k a) = .sc (.int k b) := by rw [h]
end Go.Proofs.YtkgnmddakiagbaaGreatDoor
namespace Go.Proofs.YtkgnmddakiagbaaGreatDoor
open Go.RowKit
theorem rd_of_rp {α : Type} {F : View} {w : World} {n : Nat} {l : List α} {e : α → List AV} {f : α → List Value} {v : Value} (hF : ∀ p u, F p = some u → w.cell? p = some u) (h0 : 0 < n) (hf : ∀ x, (f x).length = n) (hef : ∀ x (j : Nat) u, (f x)[j]? = some u → (e x)[j]? = some (.sc u))
    (r : RP F (.ls n (l.map e)) v) : ∃ A c, v = .slice A l.length c ∧ Rd w w.heap.size n A (l.map f) ∧ l.length ≤ c := by
  obtain ⟨A, cap, ad, u, rfl, h1, h2, h3, h4, h5⟩ := r.ls_of
  have hcell : ∀ (k : Nat) x, l[k]? = some x → ∀ (j : Nat) y, (f x)[j]? = some y → w.cell? (ad.add (k * n + j)) = some y := fun k x hk j y hy => by
    have a1 : (l.map e)[k]? = some (e x) := by rw [List.getElem?_map, hk]; rfl
    have := h3 k _ j _ a1 (hef x j y hy)
    rw [hF _ _ this.1, (h4 k _ j _ a1 (hef x j y hy)).sc_eq]
  refine ⟨A, cap, by rw [List.length_map], fun hp => ⟨ad, h2 (by simpa using hp), ?_, fun k r hr j y hy => ?_⟩, by simpa using h5⟩
  · have hp : 0 < l.length := by simpa using hp
    have hx : 0 < (f (l[0]'hp)).length := by rw [hf]; exact h0
    have := cell_block (hcell 0 (l[0]'hp) (List.getElem?_eq_getElem hp) 0 _ (List.getElem?_eq_getElem hx))
    rwa [block_of_add] at this
  · rw [List.getElem?_map] at hr
    cases hk : l[k]? with
    | none => simp [hk] at hr
    | some x =>
      rw [hk] at hr
      obtain rfl : f x = r := by simpa using hr
      exact hcell k x hk j y hy
theorem stps_of_rp {F : View} {w : World} {l : List Stp} {v : Value} (hF : ∀ p u, F p = some u → w.cell? p = some u) (r : RP F (eStps l) v) : ∃ A c, v = .slice A l.length c ∧ StpsAt w w.heap.size A l ∧ l.length ≤ c :=
  rd_of_rp (n := 5) (f := stpCells) hF (by omega) (fun _ => rfl) (fun x j u h => by
    match j with
    | 0 => cases h; rfl
    | 1 => cases h; rfl
    | 2 => cases h; rfl
    | 3 => cases h; rfl
    | 4 => cases h; rfl
    | j + 5 => simp [stpCells] at h) r
theorem evs_of_rp {F : View} {w : World} {l : List Ev} {v : Value} (hF : ∀ p u, F p = some u → w.cell? p = some u) (r : RP F (.ls 6 (l.map eEv)) v) : ∃ A c, v = .slice A l.length c ∧ EvsAt w w.heap.size A l ∧ l.length ≤ c := by
  obtain ⟨A, cap, ad, u, rfl, h1, h2, h3, h4, h5⟩ := r.ls_of
  obtain ⟨ms, hml, hmq⟩ := list_ofT (fun k (m : Option Addr × Nat) => ∀ x, l[k]? = some x → u k 5 = .slice m.1 x.stops.length m.2 ∧ StpsAt w w.heap.size m.1 x.stops) l.length fun k hk => by
    have a1 : (l.map eEv)[k]? = some (eEv l[k]) := by simp [hk]
    obtain ⟨A', c', e, hs, _⟩ := stps_of_rp hF (h4 k _ 5 _ a1 rfl)
    refine ⟨(A', c'), fun x hx => ?_⟩
    rw [List.getElem?_eq_getElem hk] at hx
    cases hx
    exact ⟨e, hs⟩
  have hcell : ∀ (k : Nat) x m, l[k]? = some x → ms[k]? = some m → ∀ (j : Nat) y, (evCells x m)[j]? = some y → w.cell? (ad.add (k * 6 + j)) = some y := fun k x m hk hm j y hy => by
    have a1 : (l.map eEv)[k]? = some (eEv x) := by rw [List.getElem?_map, hk]; rfl
    have hj : j < 6 := (List.getElem?_eq_some_iff.1 hy).1
    have get : ∀ av, (eEv x)[j]? = some av → w.cell? (ad.add (k * 6 + j)) = some (u k j) := fun av hav => hF _ _ (h3 k _ j _ a1 hav).1
    match j, hj with
    | 0, _ => cases hy; rw [get _ rfl, (h4 k _ 0 _ a1 rfl).sc_eq]
    | 1, _ => cases hy; rw [get _ rfl, (h4 k _ 1 _ a1 rfl).sc_eq]
    | 2, _ => cases hy; rw [get _ rfl, (h4 k _ 2 _ a1 rfl).sc_eq]
    | 3, _ => cases hy; rw [get _ rfl, (h4 k _ 3 _ a1 rfl).sc_eq]
    | 4, _ => cases hy; rw [get _ rfl, (h4 k _ 4 _ a1 rfl).sc_eq]
    | 5, _ => cases hy; rw [get _ rfl, (hmq k m hm x hk).1]
  refine ⟨A, cap, by rw [List.length_map], ⟨ms, hml, fun hp => ⟨ad, h2 ?_, ?_, fun k r hr j y hy => ?_⟩, fun k e m he hm => (hmq k m hm e he).2⟩, by simpa using h5⟩
  · simp [hml] at hp ⊢; omega
  · have hp : 0 < l.length := by simp [hml] at hp; omega
    have := cell_block (hcell 0 (l[0]'hp) (ms[0]'(by omega)) (List.getElem?_eq_getElem hp) (List.getElem?_eq_getElem (by omega)) 0 _ rfl)
    rwa [block_of_add] at this
  · rw [List.getElem?_zipWith] at hr
    cases hk : l[k]? with
    | none => simp [hk] at hr
    | some x =>
      cases hm : ms[k]? with
      | none => simp [hk, hm] at hr
      | some m =>
        simp [hk, hm] at hr
        subst hr
        exact hcell k x m hk hm j y hy
theorem ins_of_rp {F : View} {w : World} {cs : List (Int × Int × Bool)} {st : List Int} {v1 v2 : Value} (hF : ∀ p u, F p = some u → w.cell? p = some u) (r1 : RP F (.ls 3 (cs.map eCrs)) v1) (r2 : RP F (.ls 1 (st.map eInt)) v2) :
    ∃ A1 c1 A2 c2, v1 = .slice A1 cs.length c1 ∧ v2 = .slice A2 st.length c2 ∧ InsAt w w.heap.size A1 A2 cs st := by
  obtain ⟨A1, c1, e1, h1, _⟩ := rd_of_rp (n := 3) (f := crsCells) hF (by omega) (fun _ => rfl) (fun x j u h => by
    match j with
    | 0 => cases h; rfl
    | 1 => cases h; rfl
    | 2 => cases h; rfl
    | j + 3 => simp [crsCells] at h) r1
  obtain ⟨A2, c2, e2, h2, _⟩ := rd_of_rp (n := 1) (f := intCell) hF (by omega) (fun _ => rfl) (fun x j u h => by
    match j with
    | 0 => cases h; rfl
    | j + 1 => simp [intCell] at h) r2
  exact ⟨A1, c1, A2, c2, e1, e2, h1, h2⟩
theorem pc_of_rp {F : View} {w : World} {p : Pce} {v : Value} (hF : ∀ p u, F p = some u → w.cell? p = some u) (r : RP F (ePce p) v) : ∃ M, v = pcValue M p ∧ PcAt w w.heap.size M p := by
  obtain ⟨cs, rfl, h1, h2⟩ : ∃ cs : Array Value, v = .agg cs ∧ cs.size = 3 ∧ ∀ (i : Nat) av u, [AV.ls 3 (p.cs.map eCrs), .ls 1 (p.st.map eInt), .ls 6 (p.evs.map eEv)][i]? = some av → cs[i]? = some u → RP F av u := by
    cases r with | ag l cs a b => exact ⟨cs, rfl, a, b⟩
  have g : ∀ i (h : i < 3), cs[i]? = some (cs[i]'(by omega)) := fun i h => Array.getElem?_eq_getElem (by omega)
  obtain ⟨A1, c1, A2, c2, e1, e2, hI⟩ := ins_of_rp hF (h2 0 _ _ rfl (g 0 (by omega))) (h2 1 _ _ rfl (g 1 (by omega)))
  obtain ⟨A3, c3, e3, hE, hc⟩ := evs_of_rp hF (h2 2 _ _ rfl (g 2 (by omega)))
  refine ⟨⟨A1, A2, A3, c1, c2, c3⟩, ?_, hI, hE, hc⟩
  unfold pcValue
  congr 1
  apply Array.ext (by simp [h1])
  intro i hi hi2
  match i, (show i < 3 by omega) with
  | 0, _ => exact e1
  | 1, _ => exact e2
  | 2, _ => exact e3
theorem Ctr.of_sc {P : Program} {f : FuncId} {args : List AV} {xs : List Value} {res : AV} {v : Value} (hs : scs args = some xs) (hv : ∀ F, RP F res v) (h : ∀ w, Calls P f xs.toArray w (Ret v w)) : Ctr P f args res := by
  intro w F vs hF hR
  have : vs = xs := scs_of (G := ⟨F, fun _ => 0, fun _ => 0, fun _ => undef, fun _ _ => False⟩) hs hR.1 fun i av u a b => .pu _ _ (hR.2 i av u a b)
  subst this
  exact (h w).mono fun e w' ⟨he, hb⟩ => ⟨v, F, he, hb, fun _ _ h => h, fun p u x => by rw [hb.cell (cell_block (hF p u x))]; exact hF p u x, fun _ _ h => .inl h, hv F⟩
theorem Ctr.of_pc {P : Program} {f : FuncId} {p : Pce} {pre post : List AV} {xs ys : List Value} {res : AV} {v : Value} (hs : scs pre = some xs) (hs2 : scs post = some ys) (hv : ∀ F, RP F res v)
    (h : ∀ w M, PcAt w w.heap.size M p → Calls P f (xs ++ pcValue M p :: ys).toArray w (Ret v w)) : Ctr P f (pre ++ ePce p :: post) res := by
  intro w F vs hF hR
  have hG : ∀ i av u, (pre ++ ePce p :: post)[i]? = some av → vs[i]? = some u → R ⟨F, fun _ => 0, fun _ => 0, fun _ => undef, fun _ _ => False⟩ av u := fun i av u a b => .pu _ _ (hR.2 i av u a b)
  have hlen : vs.length = pre.length + (post.length + 1) := by rw [hR.1]; simp
  have e1 : vs.take pre.length = xs := scs_of hs (by simp; omega) fun i av u a b => by
    have hi : i < pre.length := (List.getElem?_eq_some_iff.1 a).1
    rw [List.getElem?_take_of_lt hi] at b
    exact hG i av u (by rw [List.getElem?_append_left hi]; exact a) b
  have e2 : vs.drop (pre.length + 1) = ys := scs_of hs2 (by simp; omega) fun i av u a b => by
    rw [List.getElem?_drop] at b
    exact hG (pre.length + 1 + i) av u (by rw [List.getElem?_append_right (by omega), show pre.length + 1 + i - pre.length = i + 1 by omega]; exact a) b
  have hp : vs[pre.length]? = some (vs[pre.length]'(by omega)) := List.getElem?_eq_getElem (by omega)
  obtain ⟨M, eM, hM⟩ := pc_of_rp hF (hR.2 pre.length _ _ (by rw [List.getElem?_append_right (Nat.le_refl _), Nat.sub_self]; rfl) hp)
  have ev : vs = xs ++ pcValue M p :: ys := by
    rw [← e1, ← e2, ← eM]
    conv => lhs; rw [← List.take_append_drop pre.length vs]
    congr 1
    rw [List.drop_eq_getElem_cons (by omega)]
  rw [ev]
  exact (h w M hM).mono fun e w' ⟨he, hb⟩ => ⟨v, F, he, hb, fun _ _ h => h, fun p u x => by rw [hb.cell (cell_block (hF p u x))]; exact hF p u x, fun _ _ h => .inl h, hv F⟩
end Go.Proofs.YtkgnmddakiagbaaGreatDoor
namespace Go.Proofs.YtkgnmddakiagbaaGreatDoor
open Go.RowKit
theorem W.dkT {P : Program} {C : Cx} {σ : St} {Q : Exit → St → Prop} {id : Nat} {L : List Oper} (k0 : Nat) (hm : P.follows .mixedOrders = true) (hB : Region.lexB .any L.toArray = true) (hT : tailB L.toArray k0 = true) (hB2 : Region.lexB .any (L.take k0).toArray = true)
    (h : DK P C (L.take k0).toArray (L.take k0) σ (fun e s => e = .normal ∧ WL P C L.toArray (L.drop k0) s Q)) : W P C (.region id L.toArray true) σ Q :=
  W.drawT k0 hm hB hT (let ⟨_, a, b⟩ := h; WA.draw hB2 a b)
end Go.Proofs.YtkgnmddakiagbaaGreatDoor
namespace Go.Proofs.YtkgnmddakiagbaaGreatDoor
open Go.RowKit
section
variable {P : Program} {C : Cx} {σ σ' : St} {o : Oper} {d : Tmp} {ops : Array Oper} {rest : List Oper} {Q : Exit → St → Prop}
/-! make([]T, n), the elements of one cell. -/
structure MksD where
  e : TypeId
  z : Value
  m : Int
  n : Int
def mksV (P : Program) (σ : St) : Op → Option MksD
  | .makeSlice T x y =>
    match P.underlying T, σ.ev x, σ.ev y with
    | some (.slice e), some (.sc (.int _ m)), some (.sc (.int _ n)) =>
      match P.info? e with
      | some i =>
        match i.zero with
        | some z => bif z.oneCell' && Nat.beq i.size 1 && Nat.ble i.bytes 1000 then some ⟨e, z, m, n⟩ else none
        | none => none
      | none => none
    | _, _, _ => none
  | _ => none
theorem WO.mks {x : MksD} {q : Nat} (hd : dstB C.N o = some d) (h : mksV P σ o.op = some x) (hmn : x.m = x.n) (hn : 0 ≤ x.n ∧ x.n ≤ 1000000) (hq : σ.nk = q) : WO P C o σ (((σ.new (.row x.e 1 (List.replicate x.n.toNat [.sc x.z]))).put d (.sl q))) := by
  intro G a w ok N Q' hN
  obtain ⟨_, hds, hdb⟩ := dstB_of hd
  unfold mksV at h
  split at h
  · rename_i T x1 y1 ho
    split at h
    · rename_i e k1 m k2 n hT hx hy
      split at h
      · rename_i i hi
        split at h
        · rename_i z hz
          cases hb : z.oneCell' && Nat.beq i.size 1 && Nat.ble i.bytes 1000 with
          | false => rw [hb] at h; cases h
          | true =>
            rw [hb] at h
            cases h
            simp only [Bool.and_eq_true] at hb
            obtain ⟨⟨b1, b2⟩, b3⟩ := hb
            obtain rfl : m = n := hmn
            obtain ⟨n, rfl⟩ : ∃ n : Nat, m = n := ⟨m.toNat, (Int.toNat_of_nonneg hn.1).symm⟩
            have hn2 : n ≤ 1000000 := by have := hn.2; simp only at this; omega
            have hzc : z.cells = #[z] := by cases z <;> first | rfl | cases b1
            have hby : i.bytes * n ≤ 281474976710656 := by
              have := Nat.mul_le_mul (Nat.le_of_ble_eq_true b3) hn2
              omega
            obtain ⟨w', hrun, hown, hgr⟩ := run_make_full (P := P) w 0 T e i z 1 hT hi hz (Nat.eq_of_beq_eq_true b2) k1 k2 n hby (by unfold maxLen; omega) (Nat.zero_le _)
            rw [hzc, Nat.mul_one, toList_madeCells_one] at hown
            subst hq
            have hbl : w'.heap[w.heap.size]? ≠ none := by
              rcases hown.2 with ⟨e1, _⟩ | ⟨g, cap, cur, e1, _, hh, _⟩
              · cases e1
              · cases e1; rw [hh]; simp
            have hlt : w.heap.size < w'.heap.size := by
              rcases Nat.lt_or_ge w.heap.size w'.heap.size with h | h
              · exact h
              · exact absurd (Array.getElem?_eq_none h) hbl
            have ok' := ok.newObj (S := fun _ => False) (w' := w') (b := w.heap.size) (n := 1) (h := .slice (some ⟨w.heap.size, 0, none⟩) n n) (φ := fun x => x = w.heap.size) (ob := .row e 1 (List.replicate n [.sc z]))
              ⟨hgr.os, hgr.tape, hgr.output, hgr.size, fun x h1 _ => hgr.block x h1 (by simp)⟩ (fun _ h => h.elim) (fun _ _ _ _ _ h => h) (fun _ _ _ h => h)
              ⟨with_n, (fun g hg => by rw [with_h] at hg; rw [with_b]; exact (Option.some.inj hg).symm), by
                rw [with_h, with_f]
                refine ⟨fun r hr => by rw [List.eq_of_mem_replicate hr]; rfl, List.replicate n [z], fun _ _ _ => False, by simpa using hown, by simp, fun r hr u hu => ?_, fun g hg => (Option.some.inj hg).symm, fun _ _ _ h => h.elim, fun _ _ _ _ _ h => h.elim, fun i r r' h1 h2 => ?_, fun i r r' j av u h1 h2 h3 h4 => ?_⟩
                · rw [List.eq_of_mem_replicate hr, List.mem_singleton] at hu; rw [hu]; exact b1
                · rw [List.eq_of_mem_replicate (List.mem_of_getElem? h1), List.eq_of_mem_replicate (List.mem_of_getElem? h2)]; rfl
                · rw [List.eq_of_mem_replicate (List.mem_of_getElem? h1)] at h3
                  rw [List.eq_of_mem_replicate (List.mem_of_getElem? h2)] at h4
                  cases j with
                  | zero => cases h3; cases h4; exact .sc _
                  | succ j => simp at h3⟩ trivial (fun x hx => by
                subst hx
                exact ⟨.inl ok.bel.size, hlt, fun k o h1 h2 => by have := (ok.my k o _ h1 h2).2; omega, fun p u h1 h2 => by have := cell_block (ok.fw p u h1); omega⟩)
            unfold Oper.wp execOp
            simp only [ho, ok.evs hx, ok.evs hy, Sem.run_bind, hrun, Sem.run_pure, Result.andThen_ok, Oper.upon]
            rw [hds]
            exact hN _ _ _ (ok'.set (d := some d) (av := .sl σ.nk) (with_sl rfl) (.sl _ (Nat.lt_succ_self _)) fun x hx => by cases hx; exact of_blt hdb)
        · cases h
      · cases h
    · cases h
  · cases h
theorem WL.mks {x : MksD} {m : Nat} {t : List (Nat × AV)} {M : List (Nat × AO)} {nk : Nat} (hd : dstB C.N o = some d) (h : mksV P ⟨t, M, nk⟩ o.op = some x) (hmn : x.m = x.n) (hm : x.n.toNat = m) (hn : 0 ≤ x.n ∧ x.n ≤ 1000000) (k : WL P C ops rest ⟨(d, .sl nk) :: t, (nk, .row x.e 1 (List.replicate m [.sc x.z])) :: M, nk + 1⟩ Q) : WL P C ops (o :: rest) ⟨t, M, nk⟩ Q := by
  subst hm
  exact WL.op (dstB_of hd).1 (WO.mks hd h hmn hn rfl) k
/-! Parts of slices that are written no more. -/
def partV (P : Program) (σ : St) : Op → Option (Nat × List (List AV) × Int × Int)
  | .slice T x lo hi none =>
    match P.underlying T, σ.ev x with
    | some (.slice e), some (.ls n rows) =>
      match sizeB P e with
      | some m =>
        bif Nat.beq m n then
          match lo, hi with
          | none, none => some (n, rows, 0, rows.length)
          | some y, none =>
            match σ.ev y with
            | some (.sc (.int _ i)) => some (n, rows, i, rows.length)
            | _ => none
          | none, some z =>
            match σ.ev z with
            | some (.sc (.int _ j)) => some (n, rows, 0, j)
            | _ => none
          | some y, some z =>
            match σ.ev y, σ.ev z with
            | some (.sc (.int _ i)), some (.sc (.int _ j)) => some (n, rows, i, j)
            | _, _ => none
        else none
      | none => none
    | _, _ => none
  | _ => none
def prt {α : Type} (l : List α) (i j : Int) : List α := (l.take j.toNat).drop i.toNat
theorem run_sliceS {T e n : Nat} (hT : P.underlying T = some (.slice e)) (hn : sizeB P e = some n) (A : Option Addr) (len cap : Nat) (lo hi : Option Value) (i j : Int) (w : World)
    (hlo : (∃ k, lo = some (.int k i)) ∨ (lo = none ∧ i = 0)) (hhi : (∃ k, hi = some (.int k j)) ∨ (hi = none ∧ j = len)) (hb : 0 ≤ i ∧ i ≤ j ∧ j ≤ len) (hc : len ≤ cap) :
    (Instr.slice T (.slice A len cap) lo hi none).run P w = .ok (.slice (if cap = i.toNat then A else A.map (·.add (i.toNat * n))) (j.toNat - i.toNat) (cap - i.toNat)) w := by
  obtain ⟨i, rfl⟩ : ∃ q : Nat, i = q := ⟨i.toNat, by omega⟩
  obtain ⟨j, rfl⟩ : ∃ q : Nat, j = q := ⟨j.toNat, by omega⟩
  have h1 : 0 ≤ (j : Int) ∧ (j : Int) ≤ (cap : Int) := by omega
  have h2 : 0 ≤ (i : Int) ∧ (i : Int) ≤ (j : Int) := by omega
  rcases hlo with ⟨k, rfl⟩ | ⟨rfl, hi⟩ <;> rcases hhi with ⟨k', rfl⟩ | ⟨rfl, hj⟩
  · have h3 : (i : Int) ≤ (j : Int) := by omega
    have h4 : (j : Int) ≤ (cap : Int) := by omega
    simp [Instr.slice, run_underlying hT, Instr.sliceBounds, Instr.sliceBound, asIntOf, run_sizeB hn, show i ≤ j by omega, show j ≤ cap by omega]
  · obtain rfl : j = len := by omega
    simp [Instr.slice, run_underlying hT, Instr.sliceBounds, Instr.sliceBound, asIntOf, run_sizeB hn, show i ≤ j by omega]
  · obtain rfl : i = 0 := by omega
    simp [Instr.slice, run_underlying hT, Instr.sliceBounds, Instr.sliceBound, asIntOf, run_sizeB hn, show j ≤ cap by omega]
  · obtain rfl : i = 0 := by omega
    obtain rfl : j = len := by omega
    simp [Instr.slice, run_underlying hT, Instr.sliceBounds, run_sizeB hn]
theorem partV_of {n : Nat} {rows : List (List AV)} {i j : Int} (h : partV P σ o.op = some (n, rows, i, j)) (hb : 0 ≤ i ∧ i ≤ j ∧ j ≤ rows.length) : WV P C o σ (.ls n (prt rows i j)) := by
  unfold partV at h
  split at h
  · rename_i T x lo hi ho
    split at h
    · rename_i e n' rows' hT hx
      split at h
      · rename_i m hm
        cases hbq : Nat.beq m n' with
        | false => rw [hbq] at h; cases h
        | true =>
          rw [hbq] at h
          obtain rfl := Nat.eq_of_beq_eq_true hbq
          simp only [cond_true] at h
          have key : (n = m ∧ rows = rows') ∧ ∀ G a w, Ok C σ G a w → ((∃ k, lo.map a.eval = some (.int k i)) ∨ (lo.map a.eval = none ∧ i = 0)) ∧ ((∃ k, hi.map a.eval = some (.int k j)) ∨ (hi.map a.eval = none ∧ j = rows'.length)) := by
            split at h
            · cases h; exact ⟨⟨rfl, rfl⟩, fun G a w ok => ⟨.inr ⟨rfl, rfl⟩, .inr ⟨rfl, rfl⟩⟩⟩
            · split at h
              · rename_i k i' hy; cases h; exact ⟨⟨rfl, rfl⟩, fun G a w ok => ⟨.inl ⟨k, by simp [ok.evs hy]⟩, .inr ⟨rfl, rfl⟩⟩⟩
              · cases h
            · split at h
              · rename_i k i' hy; cases h; exact ⟨⟨rfl, rfl⟩, fun G a w ok => ⟨.inr ⟨rfl, rfl⟩, .inl ⟨k, by simp [ok.evs hy]⟩⟩⟩
              · cases h
            · split at h
              · rename_i k i' k' j' hy hz; cases h; exact ⟨⟨rfl, rfl⟩, fun G a w ok => ⟨.inl ⟨k, by simp [ok.evs hy]⟩, .inl ⟨k', by simp [ok.evs hz]⟩⟩⟩
              · cases h
          obtain ⟨⟨rfl, rfl⟩, hlh⟩ := key
          refine WV.val (fun _ _ _ _ => .ls _ _) fun G a w ok => ?_
          obtain ⟨A, cap, ad, u, e1, h1, h2, h3, h4, h5⟩ := (ok.evr hx).2.pu_of.ls_of
          obtain ⟨q1, q2⟩ := hlh G a w ok
          have hrun := run_sliceS (P := P) hT hm A rows.length cap (lo.map a.eval) (hi.map a.eval) i j w q1 q2 hb h5
          have hlen : (prt rows i j).length = j.toNat - i.toNat := by unfold prt; simp; omega
          have hrow : ∀ (q : Nat) r, (prt rows i j)[q]? = some r → rows[i.toNat + q]? = some r ∧ q < j.toNat - i.toNat := fun q r hq => by
            have hlt := (List.getElem?_eq_some_iff.1 hq).1
            unfold prt at hq
            rw [List.getElem?_drop, List.getElem?_take] at hq
            split at hq
            · exact ⟨hq, by omega⟩
            · cases hq
          refine ⟨.slice (if cap = i.toNat then A else A.map (·.add (i.toNat * n))) (prt rows i j).length (cap - i.toNat), ?_, .pu _ _ (.ls n _ _ _ (ad.add (i.toNat * n)) (fun q s => u (i.toNat + q) s) (by rw [hlen]; omega) (fun r hr => ?_) (fun hp => ?_) (fun q r s av a1 a2 => ?_) fun q r s av a1 a2 => ?_)⟩
          · unfold execOp
            simp only [ho, e1, Option.map_none]
            rw [hlen]
            have hsa : ∀ v, (Instr.sliceAt T (.slice A rows.length cap) (lo.map a.eval) (hi.map a.eval) none).run P w = .ok v w ↔ (Instr.slice T (.slice A rows.length cap) (lo.map a.eval) (hi.map a.eval) none).run P w = .ok v w := fun v => by
              unfold Instr.sliceAt
              rw [Sem.run_bind, run_underlying hT w]; rfl
            rw [Sem.run_bind, (hsa _).2 hrun]; rfl
          · obtain ⟨q, hq, rfl⟩ := List.getElem_of_mem hr
            exact h1 _ (List.mem_of_getElem? (hrow q _ (List.getElem?_eq_getElem hq)).1)
          · rw [hlen] at hp
            rw [if_neg (by omega), h2 (by omega)]; rfl
          · obtain ⟨b1, b2⟩ := hrow q r a1
            have := h3 _ r s av b1 a2
            rw [add_of_add, ← Nat.add_assoc, ← Nat.add_mul]; exact this
          · exact h4 _ r s av (hrow q r a1).1 a2
      · cases h
    · cases h
  · cases h
theorem WL.part_ {n : Nat} {rows rows' : List (List AV)} {i j : Int} (hd : dstB C.N o = some d) (h : partV P σ o.op = some (n, rows, i, j)) (hb : 0 ≤ i ∧ i ≤ j ∧ j ≤ rows.length) (he : prt rows i j = rows') (k : WL P C ops rest (σ.put d (.ls n rows')) Q) : WL P C ops (o :: rest) σ Q := by
  subst he
  exact WL.vl hd (partV_of h hb) k
/-! Conversions of integers. -/
def cvtV (P : Program) (σ : St) : Op → Option (IntKind × Int)
  | .convert S T x =>
    match P.underlying T, σ.ev x with
    | some (.int k), some (.sc (.int _ n)) => some (k, n)
    | _, _ => none
  | _ => none
theorem cvtV_of {k : IntKind} {n : Int} (h : cvtV P σ o.op = some (k, n)) (hs : ∀ S T x, o.op = .convert S T x → (P.underlying S).isSome = true) : WV P C o σ (.sc (.int k (k.wrap n))) := by
  unfold cvtV at h
  split at h
  · rename_i S T x ho
    split at h
    · rename_i k' k2 n' hT hx
      cases h
      have := hs S T x ho
      cases hS : P.underlying S with
      | none => rw [hS] at this; cases this
      | some d => exact WV.sc fun G a w ok => by unfold execOp; simp [ho, ok.evs hx, convert, run_underlying hS, run_underlying hT, Conv.intToInt]
    · cases h
  · cases h
def cvtB (P : Program) : Op → Bool
  | .convert S _ _ => (P.underlying S).isSome
  | _ => true
theorem WL.cvt {k : IntKind} {n m : Int} (hd : dstB C.N o = some d) (h : cvtV P σ o.op = some (k, n)) (hs : cvtB P o.op = true) (hm : k.wrap n = m) (K : WL P C ops rest (σ.put d (.sc (.int k m))) Q) : WL P C ops (o :: rest) σ Q := by
  subst hm
  exact WL.vl hd (cvtV_of h fun S T x e => by rw [e] at hs; exact hs) K
/-! Arrays of one's own. -/
theorem idaP_of {q i j len n : Nat} {z : Int} (h : idaV P σ o.op = some (.pt q i j, len, n, z)) (h0 : 0 ≤ z ∧ z < len) : WV P C o σ (.pt q i (j + z.toNat * n)) :=
  idaV_run h h0 (fun nk b => by cases b with | pt _ _ _ hk => exact .pt _ _ _ hk) fun G a w ok v r => by
    obtain ⟨p, e, p1, p2, p3⟩ := r.pt_of
    obtain ⟨q1, q2, q3⟩ := add_ptr (j := z.toNat * n) p p1 p3
    exact ⟨p, e, .pt q i _ _ q1 (by omega) q3⟩
theorem WL.idp {q i j len n m : Nat} {z : Int} (hd : dstB C.N o = some d) (h : idaV P σ o.op = some (.pt q i j, len, n, z)) (h0 : 0 ≤ z ∧ z < len) (hm : j + z.toNat * n = m) (k : WL P C ops rest (σ.put d (.pt q i m)) Q) : WL P C ops (o :: rest) σ Q := by
  subst hm
  exact WL.vl hd (idaP_of h h0) k
def ldxV (P : Program) (σ : St) : Op → Option (List AV × Nat)
  | .load T x =>
    match aggB P T, σ.ev x with
    | some false, some (.pt k 0 j) =>
      match look k σ.M with
      | some (.box _ cells) => some (cells, j)
      | _ => none
    | _, _ => none
  | _ => none
theorem ldxV_of {cells : List AV} {j : Nat} {av : AV} (h : ldxV P σ o.op = some (cells, j)) (hj : cells[j]? = some av) (ho2 : av.own = false) : WV P C o σ av := by
  unfold ldxV at h
  split at h
  · rename_i T x ho
    split at h
    · rename_i k j' hT hx
      split at h
      · rename_i T' cells' hk
        cases h
        exact WV.load1 ho hT hx hk (l := cells.drop j) rfl (by simpa using hj) ho2
      · cases h
    · cases h
  · cases h
theorem WL.ldx {cells : List AV} {j : Nat} {av : AV} (hd : dstB C.N o = some d) (h : ldxV P σ o.op = some (cells, j)) (hj : cells[j]? = some av) (ho2 : av.own = false) (k : WL P C ops rest (σ.put d av) Q) : WL P C ops (o :: rest) σ Q := WL.vl hd (ldxV_of h hj ho2) k
def ldrV (P : Program) (σ : St) : Op → Option (List (List AV) × Nat × Nat)
  | .load T x =>
    match aggB P T, σ.ev x with
    | some false, some (.pt k i j) =>
      match look k σ.M with
      | some (.row _ _ rows) => some (rows, i, j)
      | _ => none
    | _, _ => none
  | _ => none
theorem ldrV_of {rows : List (List AV)} {i j : Nat} {r : List AV} {av : AV} (h : ldrV P σ o.op = some (rows, i, j)) (hi : rows[i]? = some r) (hj : r[j]? = some av) (ho2 : av.own = false) : WV P C o σ av := by
  unfold ldrV at h
  split at h
  · rename_i T x ho
    split at h
    · rename_i k i' j' hT hx
      split at h
      · rename_i T' n rows' hk
        cases h
        exact WV.load1 ho hT hx hk (l := r.drop j) (by simp [AO.from_, hi]) (by simpa using hj) ho2
      · cases h
    · cases h
  · cases h
theorem WL.ldr {rows : List (List AV)} {i j : Nat} {r : List AV} {av : AV} (hd : dstB C.N o = some d) (h : ldrV P σ o.op = some (rows, i, j)) (hi : rows[i]? = some r) (hj : r[j]? = some av) (ho2 : av.own = false) (k : WL P C ops rest (σ.put d av) Q) : WL P C ops (o :: rest) σ Q := WL.vl hd (ldrV_of h hi hj ho2) k
theorem DK.ldr {rows : List (List AV)} {i j : Nat} {r : List AV} {av : AV} (hd : dstD C.N ops σ o = some d) (h : ldrV P (σ.only (o.looksAt ops)) o.op = some (rows, i, j)) (hi : rows[i]? = some r) (hj : r[j]? = some av) (ho2 : av.own = false) (k : DK P C ops rest (σ.put d av) Q) : DK P C ops (o :: rest) σ Q := DK.vl hd (ldrV_of h hi hj ho2) k
def stxV (P : Program) (σ : St) : Op → Option (Nat × TypeId × List AV × Nat × AV)
  | .store T x y =>
    match σ.ev x, σ.ev y with
    | some (.pt k 0 j), some av =>
      match sizeB P T, look k σ.M with
      | some 1, some (.box T' cells) => bif av.oneB then some (k, T', cells, j, av) else none
      | _, _ => none
    | _, _ => none
  | _ => none
theorem oneB_cells {av : AV} (h : av.oneB = true) : av.cellB = true ∧ av.cells = [av] := by
  cases av <;> first | exact ⟨rfl, rfl⟩ | exact ⟨h, rfl⟩ | cases h
theorem putL_one (j : Nat) (av : AV) : ∀ cells : List AV, j < cells.length → putL j [av] cells = cells.set j av := by
  intro cells h
  apply List.ext_getElem?
  intro i
  rw [putL_at (by simp; omega), List.getElem?_set]
  by_cases e : j = i
  · subst e
    simp [h]
  · rw [if_neg e, if_neg (by simp; omega)]
theorem WL.stx {q j : Nat} {T' : TypeId} {cells : List AV} {av : AV} {t : List (Nat × AV)} {M M' : List (Nat × AO)} {nk : Nat} (hg : o.guard = none) (hds : o.dst = none) (h : stxV P ⟨t, M, nk⟩ o.op = some (q, T', cells, j, av)) (hM : remS q M = some M') (hj : j < cells.length)
    (k : WL P C ops rest ⟨t, (q, .box T' (cells.set j av)) :: M', nk⟩ Q) : WL P C ops (o :: rest) ⟨t, M, nk⟩ Q := by
  rw [remS_eq hM] at k
  clear hM
  refine WL.op hg ?_ k
  unfold stxV at h
  split at h
  · rename_i T x y ho
    split at h
    · rename_i k' j' av' hx hy
      split at h
      · rename_i T2 cells' hm hk
        cases hb : av'.oneB with
        | false => rw [hb] at h; cases h
        | true =>
          rw [hb] at h
          cases h
          obtain ⟨c1, c2⟩ := oneB_cells hb
          refine wo_rem (WO.store (σ := ⟨t, M, nk⟩) ho hds hm hx hk hy c1 c2 rfl (by simp [hb]) ?_)
          simp only [AO.put]
          have : Nat.ble (j + [av].length) cells.length = true := Nat.ble_eq_true_of_le (by simp; omega)
          rw [this, putL_one j av cells hj]; rfl
      · cases h
    · cases h
  · cases h
end
end Go.Proofs.YtkgnmddakiagbaaGreatDoor
namespace Go.Proofs.YtkgnmddakiagbaaGreatDoor
open Go.Shelf Go.RowKit
set_option maxRecDepth 100000
def joinRen : Go.Shelf.Ren := ⟨fun | 156 => 74 | 165 => 144 | 166 => 48 | 169 => 50 | 240 => 121 | 241 => 183 | 276 => 174 | 277 => 209 | n => n, fun | 0 => 0 | 3 => 3 | 4 => 4 | 9 => 9 | 20 => 20 | 31 => 132 | 37 => 93 | 70 => 92 | 72 => 95 | 75 => 97 | 76 => 98 | 127 => 203 | 164 => 258 | 5 => 5 | 80 => 100 | n => n, fun | n => n⟩
theorem joinLays : Go.Proofs.Lays.n156 Tryz.prog joinRen := {
  mixed := by kernel_rfl
  f156 := Tryz.func74.trans (congrArg some (by kernel_rfl))
  f165 := Tryz.func144.trans (congrArg some (by kernel_rfl))
  f166 := Tryz.func48.trans (congrArg some (by kernel_rfl))
  f169 := Tryz.func50.trans (congrArg some (by kernel_rfl))
  f240 := Tryz.func121.trans (congrArg some (by kernel_rfl))
  f241 := Tryz.func183.trans (congrArg some (by kernel_rfl))
  f276 := Tryz.func174.trans (congrArg some (by kernel_rfl))
  f277 := Tryz.func209.trans (congrArg some (by kernel_rfl))
  t0 := Tryz.underlying0
  a0 := Tryz.isAgg0
  z0 := Tryz.sizeOf0
  v0 := Tryz.zeroValue0
  t3 := Tryz.underlying3
  a3 := Tryz.isAgg3
  z3 := Tryz.sizeOf3
  v3 := Tryz.zeroValue3
  t4 := Tryz.underlying4
  a4 := Tryz.isAgg4
  z4 := Tryz.sizeOf4
  v4 := Tryz.zeroValue4
  t9 := Tryz.underlying9
  a9 := Tryz.isAgg9
  z9 := Tryz.sizeOf9
  v9 := Tryz.zeroValue9
  t20 := Tryz.underlying20
  a20 := Tryz.isAgg20
  z20 := Tryz.sizeOf20
  v20 := Tryz.zeroValue20
  t31 := Tryz.underlying132
  a31 := Tryz.isAgg132
  z31 := Tryz.sizeOf132
  v31 := Tryz.zeroValue132
  t37 := Tryz.underlying93
  a37 := Tryz.isAgg93
  z37 := Tryz.sizeOf93
  v37 := Tryz.zeroValue93
  t70 := Tryz.underlying92
  a70 := Tryz.isAgg92
  z70 := Tryz.sizeOf92
  v70 := Tryz.zeroValue92
  t72 := Tryz.underlying95
  a72 := Tryz.isAgg95
  z72 := Tryz.sizeOf95
  v72 := Tryz.zeroValue95
  t75 := Tryz.underlying97
  a75 := Tryz.isAgg97
  z75 := Tryz.sizeOf97
  v75 := Tryz.zeroValue97
  t76 := Tryz.underlying98
  a76 := Tryz.isAgg98
  z76 := Tryz.sizeOf98
  v76 := Tryz.zeroValue98
  t127 := Tryz.underlying203
  a127 := Tryz.isAgg203
  z127 := Tryz.sizeOf203
  v127 := Tryz.zeroValue203
  t164 := Tryz.underlying258
  a164 := Tryz.isAgg258
  z164 := Tryz.sizeOf258
  v164 := Tryz.zeroValue258 }
theorem joinExtra : Builder.Extra Tryz.prog joinRen := {
  sizeBuilder := by kernel_rfl
  liesBuilder := by kernel_rfl
  t5 := Tryz.underlying5
  a5 := Tryz.isAgg5
  z5 := Tryz.sizeOf5
  v5 := Tryz.zeroValue5
  infoByte := by kernel_rfl
  cellsByte := by kernel_rfl
  sizeByte := by kernel_rfl
  neB5 := by decide }
theorem strings_Join_none (a : Option Addr) (c : Nat) (sep : ByteArray) (w : World) :
    Calls Tryz.prog 74 #[.slice a 0 c, .string sep] w fun e w' => e = .returned (.string ⟨#[]⟩) ∧ w' = w := Any.strings_Join_none joinLays joinExtra a c sep w
theorem strings_Join (bk o c : Nat) (xs : List ByteArray) (sep : ByteArray) (w : World) (hcells : ∀ (j : Nat) x, xs[j]? = some x → w.cell? ⟨bk, o + j, none⟩ = some (.string x)) (hbk : bk < w.heap.size) (hN : xs.length ≤ 140737488355328) (hcap : xs.length ≤ c) (hlen : (Lib.join (xs.map (·.data.toList)) sep.data.toList).length ≤ 140737488355328) :
    Calls Tryz.prog 74 #[.slice (some ⟨bk, o, none⟩) xs.length c, .string sep] w fun e w' => e = .returned (.string ⟨(Lib.join (xs.map (·.data.toList)) sep.data.toList).toArray⟩) ∧ Below w.heap.size w w' := Any.strings_Join joinLays joinExtra bk o c xs sep w hcells hbk hN hcap hlen
end Go.Proofs.YtkgnmddakiagbaaGreatDoor
