/- Strings as lists of bytes: words and laws for the walks of this seat. No program in sight. -/
import Derived.WalkKit
import Derived.Handy
import Derived.WalkLawsBesides
namespace Go.Proofs.YteldgllgagjciaaGreat
open Go.RowKit

/-- The string of a list of bytes. -/
def bs (l : List UInt8) : ByteArray := ⟨l.toArray⟩
theorem mk_bs (xs : Array UInt8) : (ByteArray.mk xs) = bs xs.toList := rfl
theorem bs_of (s : ByteArray) : ∃ l, s = bs l := ⟨s.data.toList, rfl⟩
theorem bs_size (l : List UInt8) : (bs l).size = l.length := by simp [bs, ByteArray.size]
theorem bs_data (l : List UInt8) : (bs l).data.toList = l := by simp [bs]
theorem bs_append (a b : List UInt8) : bs a ++ bs b = bs (a ++ b) := by
  apply ByteArray.ext; simp [bs, ByteArray.data_append]
theorem bs_extract (l : List UInt8) (a b : Nat) : (bs l).extract a b = bs ((l.drop a).take (b - a)) := by
  apply ByteArray.ext; simp [bs, ByteArray.data_extract]
theorem bs_toList (l : List UInt8) : (bs l).toList = l := by
  simp [bs]
theorem bs_inj {a b : List UInt8} (h : bs a = bs b) : a = b := by
  have := congrArg (fun s : ByteArray => s.data.toList) h
  simpa [bs] using this
/-- A piece of a list, between two bounds as Go has them. -/
def cut (l : List UInt8) (i j : Int) : List UInt8 := (l.drop i.toNat).take (j.toNat - i.toNat)

theorem cut_length (l : List UInt8) (i j : Int) : (cut l i j).length ≤ l.length := by simp only [cut, List.length_take, List.length_drop]; omega
section
variable {P : Program} (w : World)
theorem run_cut (t : TypeId) (l : List UInt8) (k k' : IntKind) (i j : Int) (h : P.underlying t = some .string) (h0 : 0 ≤ i) (h1 : i ≤ j) (h2 : j ≤ (l.length : Int)) :
    (Instr.slice t (.string (bs l)) (some (.int k i)) (some (.int k' j)) none).run P w = .ok (.string (bs (cut l i j))) w := by
  rw [run_slice_string w t (bs l) k k' i j h h0 h1 (by rw [bs_size]; exact h2), bs_extract]; rfl
theorem run_cut_to (t : TypeId) (l : List UInt8) (k' : IntKind) (j : Int) (h : P.underlying t = some .string) (h0 : 0 ≤ j) (h2 : j ≤ (l.length : Int)) :
    (Instr.slice t (.string (bs l)) none (some (.int k' j)) none).run P w = .ok (.string (bs (cut l 0 j))) w := by
  have hj : 0 ≤ j ∧ j ≤ ((bs l).size : Int) := ⟨h0, by rw [bs_size]; exact h2⟩
  rw [run_slice_string_to_if w t (bs l) k' j h, if_pos hj, bs_extract]; rfl
theorem run_cut_from (t : TypeId) (l : List UInt8) (k : IntKind) (i : Int) (h : P.underlying t = some .string) (h0 : 0 ≤ i) (h2 : i ≤ (l.length : Int)) :
    (Instr.slice t (.string (bs l)) (some (.int k i)) none none).run P w = .ok (.string (bs (l.drop i.toNat))) w := by
  have hj : 0 ≤ i ∧ i ≤ ((bs l).size : Int) := ⟨h0, by rw [bs_size]; exact h2⟩
  rw [run_slice_string_from_if w t (bs l) k i h, if_pos hj, bs_extract, bs_size]
  rw [List.take_of_length_le (by simp)]
theorem run_add_bs (a b : List UInt8) (h : a.length + b.length ≤ 9223372036854775807) : (Op.stringOp .add (bs a) (bs b)).run P w = .ok (.string (bs (a ++ b))) w := by
  rw [run_string_add_sum w (bs a) (bs b) (by rw [bs_size, bs_size]; exact h), bs_append]
end

theorem bel_drewN {B : Nat} {a w : World} (h : Below B a w) (n : Nat) : Below B a (w.drewN n) := h.trans ⟨rfl, rfl, rfl, Nat.le_refl _, fun _ _ => rfl⟩
theorem bel_step {a w w' : World} (h : Below a.heap.size a w) (hb : Below w.heap.size w w') : Below a.heap.size a w' := h.trans (hb.mono h.size)
theorem bel_alloc {a w : World} (h : Below a.heap.size a w) (o : Obj) : Below a.heap.size a (w.alloc o) := h.alloc h.size o
theorem bcell {W w1 : World} (hb : Below W.heap.size W w1) : (∀ b o, b < W.heap.size → w1.cell? ⟨b, o, none⟩ = W.cell? ⟨b, o, none⟩) ∧ (∀ b o, b < W.heap.size → w1.frozen? ⟨b, o, none⟩ = W.frozen? ⟨b, o, none⟩) :=
  ⟨fun b o h => hb.cell (p := ⟨b, o, none⟩) h, fun b o h => hb.frozen (p := ⟨b, o, none⟩) h⟩
/-- The place of a part that takes no room, at the head of a variable that takes none. -/
theorem run_partAt_zero {P : Program} (w : World) (b : Nat) (e : TypeId) (cs : Array Value) (hb : w.heap[b]? = some (.cells cs e (0, 0))) (h0 : P.cellsOf e = 0) : (partAt ⟨b, 0, none⟩ 0 0).run P w = .ok ⟨b, 0, none⟩ w := by
  have hs : w.shape? b = some (e, cs.size) := by simp [World.shape?, hb]
  simp [partAt, byteOf, noView, viewAt, hs, h0]
theorem heap_alloc2 (w : World) (o o' : Obj) : ((w.alloc o).alloc o').heap[w.heap.size]? = some o := by
  rw [Below.heap_alloc _ _ _ (by simp)]; exact heap_alloc_new w o
theorem heap_alloc1 (w : World) (o : Obj) : (w.alloc o).heap[w.heap.size]? = some o := heap_alloc_new w o
/-- A block that is known whole. -/
def Blk (w : World) (g : Nat) (t : TypeId) (cs : Array Value) : Prop := w.heap[g]? = some (.cells cs t (0, 0))
section
variable {w w' : World} {g : Nat} {t : TypeId} {cs : Array Value}
theorem Blk.lt (h : Blk w g t cs) : g < w.heap.size := by
  rcases Nat.lt_or_ge g w.heap.size with hlt | hge
  · exact hlt
  · unfold Blk at h; rw [Array.getElem?_eq_none hge] at h; cases h
theorem Blk.cell (h : Blk w g t cs) (i : Nat) : w.cell? ⟨g, i, none⟩ = cs[i]? := cell_of_row w g i cs t (0, 0) h
theorem Blk.frozen (h : Blk w g t cs) (i : Nat) : w.frozen? ⟨g, i, none⟩ = false := by
  unfold Blk at h
  simp [World.frozen?, h]
theorem Blk.new (w : World) (t : TypeId) (cs : Array Value) : Blk (w.alloc (.cells cs t)) w.heap.size t cs := heap_alloc_new w _
theorem Blk.drew (h : Blk w g t cs) : Blk w.drew g t cs := h
theorem Blk.drewN (h : Blk w g t cs) (n : Nat) : Blk (w.drewN n) g t cs := h
theorem Blk.alloc (h : Blk w g t cs) (o : Obj) : Blk (w.alloc o) g t cs := (Below.heap_alloc w o g h.lt).trans h
theorem Blk.set_ (h : Blk w g t cs) (i : Nat) (u : Value) : Blk (w.setCell ⟨g, i, none⟩ u) g t (cs.setIfInBounds i u) := by
  unfold Blk at h ⊢
  simp [World.setCell, Array.getElem?_modify, h]
theorem Blk.far (h : Blk w g t cs) {p : Addr} (hp : g ≠ p.block) (u : Value) : Blk (w.setCell p u) g t cs := (Below.heap_setCell w p u g hp).trans h
theorem Blk.after (h : Blk w g t cs) (hb : Below w.heap.size w w') : Blk w' g t cs := (hb.block g h.lt).trans h
theorem Blk.below {B : Nat} (h : Blk w g t cs) (hb : Below B w w') (hg : g < B) : Blk w' g t cs := (hb.block g hg).trans h
end
/-- A contract's end: it returned v; of what was there nothing has turned. -/
def Ret (v : Value) (W : World) (e : Ending) (w' : World) : Prop := e = .returned v ∧ Below W.heap.size W w'
theorem Ret.mk' {v v' : Value} {W w' : World} (h : v' = v) (hb : Below W.heap.size W w') : Ret v W (.returned v') w' := ⟨by rw [h], hb⟩
end Go.Proofs.YteldgllgagjciaaGreat
