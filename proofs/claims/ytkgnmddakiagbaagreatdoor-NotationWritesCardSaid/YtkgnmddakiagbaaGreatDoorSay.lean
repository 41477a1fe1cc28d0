/- What a system lacks, gathered: the program's closure. -/
import Derived.Test.YtkgnmddakiagbaaGreatDoorApp2
import Derived.Test.YtkgnmddakiagbaaGreatDoorProg
import Derived.Lib.Hide
namespace Go.Proofs.YtkgnmddakiagbaaGreatDoor
open Go.RowKit
set_option maxHeartbeats 1600000
set_option maxRecDepth 100000
set_option linter.unusedVariables false
set_option linter.unusedSimpArgs false
/-- A lack: the event, the course, what. -/
abbrev Lck := Int × Int × Int
def lckCells (x : Lck) : List Value := [.int .i64 x.1, .int .i64 x.2.1, .int .i64 x.2.2]
theorem lck_len (l : List Lck) : ∀ r ∈ l.map lckCells, r.length = 3 := by intro r h; obtain ⟨x, _, rfl⟩ := List.mem_map.1 h; rfl
theorem lck_one (l : List Lck) : ∀ r ∈ l.map lckCells, ∀ u ∈ r, u.oneCell' = true := by
  intro r h u hu; obtain ⟨x, _, rfl⟩ := List.mem_map.1 h
  simp only [lckCells, List.mem_cons, List.not_mem_nil, or_false] at hu
  rcases hu with rfl | rfl | rfl <;> rfl
theorem infoLack : (Tryz.prog.info? 262).map (fun i => (i.zero, i.size, i.bytes)) = some (some (.agg #[.int .i64 0, .int .i64 0, .int .i64 0]), 3, 24) := by kernel_rfl
/-- The list so far: the variable in block b, its row of the call's own. -/
def SayAt (w : World) (B0 b : Nat) (l : List Lck) : Prop :=
  ∃ Q d, Blk w b 103 #[.slice Q l.length d] ∧ w.ownsRow B0 262 3 (.slice Q l.length d) l.length (l.map lckCells).flatten
theorem SayAt.start (w : World) (B0 b : Nat) (h : Blk w b 103 #[.slice none 0 0]) : SayAt w B0 b [] := ⟨none, 0, h, ⟨by simp, .inl ⟨rfl, rfl⟩⟩⟩
theorem SayAt.after {w w' : World} {B0 b : Nat} {l : List Lck} (h : SayAt w B0 b l) (hb : Below w.heap.size w w') : SayAt w' B0 b l := by
  obtain ⟨Q, d, h1, h2⟩ := h
  exact ⟨Q, d, h1.after hb, own_keep h2 fun g _ hlt => hb.block g hlt⟩
/-- What the closure leaves as it was. -/
def SayKeeps (b : Nat) (w w' : World) : Prop := Below b w w' ∧ w.heap.size ≤ w'.heap.size ∧ ∀ (g : Nat) (t : TypeId) (cs : Array Value), Blk w g t cs → g ≠ b → t ≠ 262 → Blk w' g t cs
def SayPost (B0 b : Nat) (l : List Lck) (w : World) (e : Ending) (w' : World) : Prop := e = .returned (.tuple #[]) ∧ SayAt w' B0 b l ∧ SayKeeps b w w'
theorem own_ne {w : World} {base g : Nat} {e t : TypeId} {size n : Nat} {v : Value} {xs : List Value} {cs : Array Value} (h : w.ownsRow base e size v n xs) (hg : Blk w g t cs) (hne : t ≠ e) : v.ownBlock ≠ some g := by
  rcases h.2 with ⟨rfl, _⟩ | ⟨g', cap, cur, rfl, _, hh, _⟩
  · simp [Value.ownBlock]
  · intro he
    have : g' = g := by simpa [Value.ownBlock] using he
    subst this
    unfold Blk at hg
    rw [hh] at hg
    injection hg with hg
    injection hg with _ ht
    exact hne ht.symm
theorem say_ok (c what : Int) (b be B0 : Nat) (l : List Lck) (w : World) (h : SayAt w B0 b l) :
    Calls Tryz.prog 184 #[.bool true, .int .i64 c, .int .i64 what, .pointer (some ⟨b, 0, none⟩), .pointer (some ⟨be, 0, none⟩)] w (SayPost B0 b l w) := by
  have H := Lib.hid h
  clear h
  go_enter Tryz.func184, Tryz.ntmps184
  go_wp2
  exact bodyPost_end (v := .tuple #[]) (by simp [results, Tryz.results184, go_sem]) rfl ⟨rfl, H.out, Below.refl _ _, Nat.le_refl _, fun g t cs h _ _ => h⟩
theorem say_no (c what ev : Int) (b be B0 : Nat) (l : List Lck) (w : World) (h : SayAt w B0 b l) (hev : w.cell? ⟨be, 0, none⟩ = some (.int .i64 ev)) (hb : b < B0) (hB : B0 ≤ w.heap.size) (hl : l.length ≤ 32000) :
    Calls Tryz.prog 184 #[.bool false, .int .i64 c, .int .i64 what, .pointer (some ⟨b, 0, none⟩), .pointer (some ⟨be, 0, none⟩)] w (SayPost B0 b (l ++ [(ev, c, what)]) w) := by
  obtain ⟨i0, hi0, hz0, hz1, hz2⟩ := info_parts infoLack
  obtain ⟨Q, d, hQ, hown⟩ := h
  have HQ := Lib.hid hQ
  have HO := Lib.hid hown
  have hbl : b < w.heap.size := hQ.lt
  have hbe : be < w.heap.size := World.block_lt_of_cell? w _ hev
  have q0 : w.cell? ⟨b, 0, none⟩ = some (.slice Q l.length d) := hQ.cell 0
  have f0 := hQ.frozen 0
  clear hQ hown
  go_enter Tryz.func184, Tryz.ntmps184
  go_wp2_with (at_builtin
               refine wpList_append_rd rfl (.tmp 10) (.tmp 15) _ rfl B0 262 i0 _ 3 24 Tryz.underlying103 hi0 hz0 hz1 hz2 rfl (by omega) (.slice Q l.length d) l.length (l.map lckCells) rfl (own_keep HO.out fun g _ hlt => Below.heap_alloc _ _ _ hlt) (lck_len _) (by simp) _ (some ⟨w.heap.size, 0, none⟩) [lckCells (ev, c, what)] 1 1 rfl rfl (rd_block (blk_new' rfl) rfl) (lck_len [(ev, c, what)]) (lck_one [(ev, c, what)]) (by show l.length + 1 ≤ maxLen; unfold maxLen; omega) (by show (l.length + 1) * 24 ≤ _; omega) (by simp; omega) ?_
               intro Q' d' w3 hown3 hg3 hat3
               have hne : (Value.slice Q l.length d).ownBlock ≠ some b := fun e => by have := (own_lt HO.out _ e).1; omega
               have kb : Blk w3 b 103 #[.slice Q l.length d] := blk_grown (HQ.out.alloc _) hg3 (fun e => hne e.symm)
               have z0 : w3.cell? ⟨b, 0, none⟩ = some (.slice Q l.length d) := kb.cell 0
               have zf0 := kb.frozen 0
               have KB := Lib.hid kb
               clear kb)
  have hsz3 : w.heap.size + 1 ≤ w3.heap.size := by have := hg3.size; simpa using this
  refine bodyPost_end (v := .tuple #[]) (by simp [results, Tryz.results184, go_sem]) rfl ⟨rfl, ⟨Q', d', ?_, ?_⟩, ?_, ?_, ?_⟩
  · rw [List.length_append]
    exact KB.out.set_ 0 _
  · rw [List.length_append, List.map_append]
    exact own_keep hown3 fun g hg hlt => Below.heap_setCell _ _ _ _ (by have := (own_lt hown3 g hg).1; show g ≠ b; omega)
  · refine Below.setCell (p := ⟨b, 0, none⟩) ?_ (Nat.le_refl b) _
    refine Below.grown ((Below.refl _ _).alloc (by omega) _) hg3 (by simp; omega) (fun g hgv => by have := (own_lt HO.out g hgv).1; omega)
  · simp [World.setCell]; omega
  · intro g t cs hg hgb ht
    refine Blk.far (p := ⟨b, 0, none⟩) ?_ hgb _
    exact blk_grown (hg.alloc _) hg3 (fun e => own_ne HO.out hg ht e.symm)
end Go.Proofs.YtkgnmddakiagbaaGreatDoor
