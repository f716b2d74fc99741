import Derived.Test.YtogdhmbdackeeaaProg
import Derived.WalkKit
import Derived.WalkLawsBesides
import Derived.WalkSpells
import Derived.Lib.Hide
import Derived.BigQuiet
namespace Go.Proofs.Ytogdhmbdackeeaa
open Go.RowKit
set_option linter.unusedVariables false

theorem u8_of {n : Int} (h : (Lit.int .u8 n).wf = true) : 0 ≤ n ∧ n ≤ 255 := by
  simpa [Lit.wf, IntKind.min, IntKind.max, IntKind.signed, IntKind.bits] using h
theorem i64_of {n : Int} (h : (Lit.int .i64 n).wf = true) : -9223372036854775808 ≤ n ∧ n ≤ 9223372036854775807 := by
  simpa [Lit.wf, IntKind.min, IntKind.max, IntKind.signed, IntKind.bits] using h
theorem bset {B : Nat} {a w : World} (h : Below B a w) {b off : Nat} (hp : B ≤ b) (u : Value) : Below B a (w.setCell ⟨b, off, none⟩ u) := h.setCell (p := ⟨b, off, none⟩) hp u
theorem ballo {B : Nat} {a w : World} (h : Below B a w) (hB : B ≤ w.heap.size) (o : Obj) : Below B a (w.alloc o) := h.alloc hB o
theorem bnext {a w w' : World} (h : Below a.heap.size a w) (h2 : Below w.heap.size w w') : Below a.heap.size a w' := h.trans (h2.mono h.size)
theorem balloc {a w : World} (h : Below a.heap.size a w) (o : Obj) : Below a.heap.size a (w.alloc o) := h.alloc h.size o
theorem cell_alloc_lt {w : World} {o : Obj} {b off : Nat} (h : b < w.heap.size) : (w.alloc o).cell? ⟨b, off, none⟩ = w.cell? ⟨b, off, none⟩ := World.cell?_alloc_lt _ _ _ h
theorem frozen_alloc_lt {w : World} {o : Obj} {b off : Nat} (h : b < w.heap.size) : (w.alloc o).frozen? ⟨b, off, none⟩ = w.frozen? ⟨b, off, none⟩ := World.frozen?_alloc_old _ _ _ (Nat.ne_of_lt h)
theorem cell_two {w : World} {b : Nat} {u v : Value} {t : TypeId} (h : w.heap[b]? = some (.cells #[u, v] t (0, 0))) : w.cell? ⟨b, 0, none⟩ = some u ∧ w.cell? ⟨b, 1, none⟩ = some v ∧ w.frozen? ⟨b, 0, none⟩ = false ∧ w.frozen? ⟨b, 1, none⟩ = false := by simp [World.cell?, World.frozen?, h]
theorem cell_one {w : World} {b : Nat} {u : Value} {t : TypeId} (h : w.heap[b]? = some (.cells #[u] t (0, 0))) : w.cell? ⟨b, 0, none⟩ = some u ∧ w.frozen? ⟨b, 0, none⟩ = false := by simp [World.cell?, World.frozen?, h]
theorem heap_alloc_lt {w : World} {o : Obj} {k : Nat} (h : k < w.heap.size) : (w.alloc o).heap[k]? = w.heap[k]? := Below.heap_alloc _ _ _ h
theorem heap_setCell_ne {w : World} {b off : Nat} {v : Value} {k : Nat} (h : k ≠ b) : (w.setCell ⟨b, off, none⟩ v).heap[k]? = w.heap[k]? := Below.heap_setCell _ _ _ _ h
theorem heap_setCell_at {w : World} {b off : Nat} {v : Value} {c : Array Value} {t : TypeId} {f : Nat × Nat} (h : w.heap[b]? = some (.cells c t f)) : (w.setCell ⟨b, off, none⟩ v).heap[b]? = some (.cells (c.setIfInBounds off v) t f) := by
  have hlt := lt_of_block h
  have h' : w.heap[b] = .cells c t f := by simpa [Array.getElem?_eq_getElem hlt] using h
  show (w.heap.modify b _)[b]? = _
  rw [Array.getElem?_eq_getElem (by simpa using hlt), Array.getElem_modify_self, h']
  rfl
theorem carry {w w' : World} {k : Nat} {o : Obj} (hb : Below w.heap.size w w') (h : w.heap[k]? = some o) : w'.heap[k]? = some o := (hb.block _ (lt_of_block h)).trans h
theorem al {w : World} {k : Nat} {o x : Obj} (h : w.heap[k]? = some o) : (w.alloc x).heap[k]? = some o := (heap_alloc_lt (lt_of_block h)).trans h
theorem nwk {w : World} {o : Obj} {k : Nat} (h : w.heap.size = k) : (w.alloc o).heap[k]? = some o := by subst h; exact (MapKept.heap_alloc _ _).1
theorem nw {w : World} {o : Obj} : (w.alloc o).heap[w.heap.size]? = some o := nwk rfl

/-- Blocks from B on that were there stay as they were. -/
structure Above (B : Nat) (w w' : World) : Prop where
  size : w.heap.size ≤ w'.heap.size
  block : ∀ k, B ≤ k → k < w.heap.size → w'.heap[k]? = w.heap[k]?
theorem babove {B : Nat} {w w' : World} (h : Below w.heap.size w w') : Above B w w' := ⟨h.size, fun k _ h2 => h.block k h2⟩
/-- Nothing below lo and nothing from hi on turns. -/
structure Rg (lo hi : Nat) (w w' : World) : Prop where
  low : Below lo w w'
  high : Above hi w w'
theorem Rg.refl (lo hi : Nat) (w : World) : Rg lo hi w w := ⟨Below.refl _ _, Nat.le_refl _, fun _ _ _ => rfl⟩
theorem Rg.trans {lo hi : Nat} {a b c : World} (h : Rg lo hi a b) (k : Rg lo hi b c) : Rg lo hi a c :=
  ⟨h.low.trans k.low, Nat.le_trans h.high.size k.high.size, fun i h1 h2 => (k.high.block i h1 (Nat.lt_of_lt_of_le h2 h.high.size)).trans (h.high.block i h1 h2)⟩
theorem Rg.set {lo hi : Nat} {a w : World} (h : Rg lo hi a w) {b off : Nat} (h1 : lo ≤ b) (h2 : b < hi) (v : Value) : Rg lo hi a (w.setCell ⟨b, off, none⟩ v) :=
  ⟨bset h.low h1 _, by simpa using h.high.size, fun i h3 h4 => (heap_setCell_ne (by omega)).trans (h.high.block i h3 h4)⟩
theorem Rg.drew {lo hi : Nat} {a w : World} (h : Rg lo hi a w) : Rg lo hi a w.drew := h.trans ⟨(Below.refl _ _).drew, Nat.le_refl _, fun _ _ _ => rfl⟩
theorem Rg.below {lo hi : Nat} {w w' : World} (h : Below w.heap.size w w') (hN : lo ≤ w.heap.size) : Rg lo hi w w' := ⟨h.mono hN, babove h⟩
theorem Rg.next {lo hi : Nat} {a w w' : World} (h : Rg lo hi a w) (h2 : Below w.heap.size w w') (hN : lo ≤ a.heap.size) : Rg lo hi a w' := h.trans (Rg.below h2 (Nat.le_trans hN h.high.size))
theorem Rg.keep {lo hi k : Nat} {w w' : World} {o : Obj} (h : Rg lo hi w w') (hk : k < lo ∨ hi ≤ k) (ho : w.heap[k]? = some o) : w'.heap[k]? = some o := by
  rcases hk with hk | hk
  · exact (h.low.block k hk).trans ho
  · exact (h.high.block k hk (lt_of_block ho)).trans ho

/-! ## A buffer in memory -/
/-- A list's number at an index. -/
def rd (r : List Int) (i : Nat) : Int := r.getD i 0
def bufCells (r : List Int) (s f h a : Int) : Array Value := (r.map (Value.int .u8) ++ [Value.int .i64 s, Value.int .i64 f, Value.int .i64 h, Value.int .i64 a]).toArray
/-- Block b is a buffer: its ring, size, first, held, at. -/
def BufAt (w : World) (b : Nat) (r : List Int) (s f h a : Int) : Prop := r.length = 256 ∧ w.heap[b]? = some (.cells (bufCells r s f h a) 61 (0, 0))

theorem bufCells_ring {r : List Int} {s f h a : Int} (hr : r.length = 256) {i : Nat} (hi : i < 256) : (bufCells r s f h a)[i]? = some (.int .u8 (rd r i)) := by
  have h1 : i < r.length := by omega
  simp [bufCells, rd, List.getElem?_append_left, h1]
theorem bufCells_tail {r : List Int} {s f h a : Int} (hr : r.length = 256) : (bufCells r s f h a)[256]? = some (.int .i64 s) ∧ (bufCells r s f h a)[257]? = some (.int .i64 f) ∧ (bufCells r s f h a)[258]? = some (.int .i64 h) ∧ (bufCells r s f h a)[259]? = some (.int .i64 a) := by
  simp [bufCells, hr]

section
variable {w : World} {b : Nat} {r : List Int} {s f h a : Int}
theorem BufAt.lt (H : BufAt w b r s f h a) : b < w.heap.size := lt_of_block H.2
theorem BufAt.ring (H : BufAt w b r s f h a) {i : Nat} (hi : i < 256) : w.cell? ⟨b, i, none⟩ = some (.int .u8 (rd r i)) := by
  simp only [World.cell?, H.2]
  exact bufCells_ring H.1 hi
theorem BufAt.free (H : BufAt w b r s f h a) (i : Nat) : w.frozen? ⟨b, i, none⟩ = false := by simp [World.frozen?, H.2]
theorem BufAt.tail (H : BufAt w b r s f h a) : w.cell? ⟨b, 256, none⟩ = some (.int .i64 s) ∧ w.cell? ⟨b, 257, none⟩ = some (.int .i64 f) ∧ w.cell? ⟨b, 258, none⟩ = some (.int .i64 h) ∧ w.cell? ⟨b, 259, none⟩ = some (.int .i64 a) := by
  have e := bufCells_tail (s := s) (f := f) (h := h) (a := a) H.1
  simp only [World.cell?, H.2]
  exact ⟨e.1, e.2.1, e.2.2.1, e.2.2.2⟩
theorem BufAt.set_ring (H : BufAt w b r s f h a) (i : Nat) (hi : i < 256) (v : Int) : BufAt (w.setCell ⟨b, i, none⟩ (.int .u8 v)) b (r.set i v) s f h a := by
  refine ⟨by simpa using H.1, ?_⟩
  rw [heap_setCell_at H.2]
  have h1 : i < r.length := by have := H.1; omega
  simp [bufCells, List.set_append_left, h1]
theorem BufAt.set_first (H : BufAt w b r s f h a) (v : Int) : BufAt (w.setCell ⟨b, 257, none⟩ (.int .i64 v)) b r s v h a := by
  refine ⟨H.1, ?_⟩
  rw [heap_setCell_at H.2]
  simp [bufCells, List.set_append_right, H.1]
theorem BufAt.set_held (H : BufAt w b r s f h a) (v : Int) : BufAt (w.setCell ⟨b, 258, none⟩ (.int .i64 v)) b r s f v a := by
  refine ⟨H.1, ?_⟩
  rw [heap_setCell_at H.2]
  simp [bufCells, List.set_append_right, H.1]
theorem BufAt.set_at (H : BufAt w b r s f h a) (v : Int) : BufAt (w.setCell ⟨b, 259, none⟩ (.int .i64 v)) b r s f h v := by
  refine ⟨H.1, ?_⟩
  rw [heap_setCell_at H.2]
  simp [bufCells, List.set_append_right, H.1]
theorem BufAt.next (H : BufAt w b r s f h a) {w' : World} (hb : Below w.heap.size w w') : BufAt w' b r s f h a := ⟨H.1, carry hb H.2⟩
theorem BufAt.keep (H : BufAt w b r s f h a) {lo hi : Nat} {w' : World} (hr : Rg lo hi w w') (hk : b < lo ∨ hi ≤ b) : BufAt w' b r s f h a := ⟨H.1, hr.keep hk H.2⟩
theorem BufAt.drew (H : BufAt w b r s f h a) : BufAt w.drew b r s f h a := H
theorem BufAt.alloc (H : BufAt w b r s f h a) (o : Obj) : BufAt (w.alloc o) b r s f h a := ⟨H.1, al H.2⟩
end
end Go.Proofs.Ytogdhmbdackeeaa
