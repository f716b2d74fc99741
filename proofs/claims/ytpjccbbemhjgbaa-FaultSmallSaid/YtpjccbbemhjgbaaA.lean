import Derived.Test.YtpjccbbemhjgbaaProg
import Derived.WalkKit
import Derived.Defers
import Derived.Recover
import Derived.WalkLawsBesides
import Derived.WalkSpells
import Derived.Lib.Hide
namespace Go.Proofs.Ytpjccbbemhjgbaa
open Go.RowKit

/-- Blocks from B on that were there stay as they were. -/
structure Above (B : Nat) (w w' : World) : Prop where
  size : w.heap.size ≤ w'.heap.size
  block : ∀ k, B ≤ k → k < w.heap.size → w'.heap[k]? = w.heap[k]?

theorem u8_of {n : Int} (h : (Lit.int .u8 n).wf = true) : 0 ≤ n ∧ n ≤ 255 := by
  simpa [Lit.wf, IntKind.min, IntKind.max, IntKind.signed, IntKind.bits] using h
theorem i64_of {n : Int} (h : (Lit.int .i64 n).wf = true) : -9223372036854775808 ≤ n ∧ n ≤ 9223372036854775807 := by
  simpa [Lit.wf, IntKind.min, IntKind.max, IntKind.signed, IntKind.bits] using h
theorem bset {B : Nat} {a w : World} (h : Below B a w) {b off : Nat} (hp : B ≤ b) (u : Value) : Below B a (w.setCell ⟨b, off, none⟩ u) := h.setCell (p := ⟨b, off, none⟩) hp u
theorem ballo {B : Nat} {a w : World} (h : Below B a w) (hB : B ≤ w.heap.size) (o : Obj) : Below B a (w.alloc o) := h.alloc hB o

theorem there_any (k : Int) (w : World) :
    Calls Try.prog 43 #[.int .u8 k] w fun e w' => e = .returned (.bool (decide (1 ≤ k) && decide (k ≤ 2))) ∧ w = w' := by
  by_cases h : 1 ≤ k
  · go_enter Try.func43, Try.ntmps43
    go_wp2
    go_ret
    simp [h]
  · go_enter Try.func43, Try.ntmps43
    go_wp2
    go_ret
    simp
    omega

/-- A kind that there is is thrown. -/
theorem throw_good (k m : Int) (hk : 1 ≤ k) (hk2 : k ≤ 2) (w : World) :
    Calls Try.prog 17 #[.int .u8 k, .int .i64 m] w fun e w' => e = .panicked [{ v := .iface 23 (.agg #[.int .u8 k, .int .i64 m]), recovered := false }] ∧ w = w' := by
  go_enter Try.func17, Try.ntmps17
  go_wp2_with (go_at_call 43; refine (there_any _ _).mono ?_; rintro e w' ⟨rfl, rfl⟩)
  exact ⟨rfl, rfl, rfl⟩

theorem throw_bad (k m : Int) (hk : k < 1 ∨ 2 < k) (w : World) :
    Calls Try.prog 17 #[.int .u8 k, .int .i64 m] w fun e w' => e = .panicked [{ v := .iface 25 (.int .i64 350), recovered := false }] ∧ w = w' := by
  have hb : (decide (1 ≤ k) && decide (k ≤ 2)) = false := by simp; omega
  go_enter Try.func17, Try.ntmps17
  go_wp2_with (go_at_call 43; refine (there_any _ _).mono ?_; rintro e w' ⟨rfl, rfl⟩)
  exact ⟨rfl, rfl, rfl⟩

/-! ### caught$1, the deferred closure -/
theorem recoverD_idle {c₀ : Frame} {cs : List Frame} (hu : c₀.mode = .returning) : recoverD (c₀ :: cs) = none := by simp [recoverD, hu]
theorem recoverD_panic {c₀ : Frame} {cs : List Frame} {v : Value} {older : List PanicEntry} (hu : c₀.mode = .panicking ({ v := v, recovered := false } :: older)) :
    recoverD (c₀ :: cs) = some (v, { c₀ with mode := .panicking ({ v := v, recovered := true } :: older) } :: cs) := by simp [recoverD, hu]

theorem catch_idle (p q : Addr) (w : World) :
    CallsD Try.prog 60 #[.pointer (some p), .pointer (some q)] .returning w fun e u' w' => e = .returned (.tuple #[]) ∧ u' = .returning ∧ w = w' := by
  refine callsD_of_wpS Try.func60 rfl fun c₀ cs hu => ?_
  simp only [Try.ntmps60, List.size_toArray, List.length_cons, List.length_nil, Nat.reduceAdd, Nat.reduceSub, Array.replicate_succ,
     Array.replicate_zero, List.push_toArray, List.append_toArray, List.nil_append, List.cons_append]
  apply wpS_seq
  apply wpS_region
  simp [wpOpsS, go_sem, recoverD_idle hu, Exit.thenS]
  refine wpS_of_wp ?_
  have H := Lib.hid hu; clear hu
  go_wp2
  have hu := H.out
  cases c₀
  simp_all [bodyPostS, results, Try.results60]

theorem assert_fault (v : Value) (w : World) : (Instr.typeAssert (.iface 23 v) 20 23 true).run Try.prog w = .ok (.tuple #[v, .bool true]) w := by kernel_rfl
theorem assert_other (t : TypeId) (ht : t ≠ 23) (v : Value) (w : World) : (Instr.typeAssert (.iface t v) 20 23 true).run Try.prog w = .ok (.tuple #[.agg #[.int .u8 0, .int .i64 0], .bool false]) w := by
  have hu := Try.underlying23
  have hz : ∀ w, (zeroValue 23).run Try.prog w = .ok (.agg #[.int .u8 0, .int .i64 0]) w := fun _ => by kernel_rfl
  simp [Instr.typeAssert, run_underlying hu, if_neg ht, hz, go_sem]

theorem cell_alloc_lt {w : World} {o : Obj} {b off : Nat} (h : b < w.heap.size) : (w.alloc o).cell? ⟨b, off, none⟩ = w.cell? ⟨b, off, none⟩ := World.cell?_alloc_lt _ _ _ h
theorem frozen_alloc_lt {w : World} {o : Obj} {b off : Nat} (h : b < w.heap.size) : (w.alloc o).frozen? ⟨b, off, none⟩ = w.frozen? ⟨b, off, none⟩ := World.frozen?_alloc_old _ _ _ (Nat.ne_of_lt h)
theorem cell_two {w : World} {b : Nat} {u v : Value} {t : TypeId} (h : w.heap[b]? = some (.cells #[u, v] t (0, 0))) : w.cell? ⟨b, 0, none⟩ = some u ∧ w.cell? ⟨b, 1, none⟩ = some v ∧ w.frozen? ⟨b, 0, none⟩ = false ∧ w.frozen? ⟨b, 1, none⟩ = false := by simp [World.cell?, World.frozen?, h]
theorem cell_one {w : World} {b : Nat} {u : Value} {t : TypeId} (h : w.heap[b]? = some (.cells #[u] t (0, 0))) : w.cell? ⟨b, 0, none⟩ = some u ∧ w.frozen? ⟨b, 0, none⟩ = false := by simp [World.cell?, World.frozen?, h]

theorem heap_alloc_lt {w : World} {o : Obj} {k : Nat} (h : k < w.heap.size) : (w.alloc o).heap[k]? = w.heap[k]? := Below.heap_alloc _ _ _ h
theorem heap_setCell_ne {w : World} {b off : Nat} {v : Value} {k : Nat} (h : k ≠ b) : (w.setCell ⟨b, off, none⟩ v).heap[k]? = w.heap[k]? := Below.heap_setCell _ _ _ _ h
theorem heap_setCell_at {w : World} {b off : Nat} {v : Value} {c : Array Value} {t : TypeId} {f : Nat × Nat} (h : w.heap[b]? = some (.cells c t f)) : (w.setCell ⟨b, off, none⟩ v).heap[b]? = some (.cells (c.setIfInBounds off v) t f) := by
  have hlt := lt_of_block h
  have h' : w.heap[b] = .cells c t f := by simpa [Array.getElem?_eq_getElem hlt] using h
  show (w.heap.modify b _)[b]? = _
  rw [Array.getElem?_eq_getElem (by simpa using hlt), Array.getElem_modify_self, h']
  rfl

set_option maxRecDepth 20000 in
theorem catch_fault (B : Nat) (k m : Int) (hk : 1 ≤ k) (hk2 : k ≤ 2) (older : List PanicEntry) (w : World) (k0 m0 : Int) (hB : w.heap[B]? = some (.cells #[.int .u8 k0, .int .i64 m0] 23)) (hC : w.heap[B + 1]? = some (.cells #[.bool false] 4)) :
    CallsD Try.prog 60 #[.pointer (some ⟨B, 0, none⟩), .pointer (some ⟨B + 1, 0, none⟩)] (.panicking ({ v := .iface 23 (.agg #[.int .u8 k, .int .i64 m]), recovered := false } :: older)) w fun e u' w' => e = .returned (.tuple #[]) ∧ u' = .panicking ({ v := .iface 23 (.agg #[.int .u8 k, .int .i64 m]), recovered := true } :: older) ∧
      w'.heap[B]? = some (.cells #[.int .u8 k, .int .i64 m] 23) ∧ w'.heap[B + 1]? = some (.cells #[.bool true] 4) ∧ Below B w w' := by
  have hta := assert_fault
  obtain ⟨c0, c1, f0, f1⟩ := cell_two hB
  obtain ⟨c2, f2⟩ := cell_one hC
  have l0 := lt_of_block hB
  have l1 := lt_of_block hC
  have ca := fun o off => cell_alloc_lt (o := o) (off := off) l0
  have ca' := fun o off => cell_alloc_lt (o := o) (off := off) l1
  have fa := fun o off => frozen_alloc_lt (o := o) (off := off) l0
  have fa' := fun o off => frozen_alloc_lt (o := o) (off := off) l1
  have H0 := Lib.hid hB; have H1 := Lib.hid hC; clear hB hC
  refine callsD_of_wpS Try.func60 rfl fun c₀ cs hu => ?_
  simp only [Try.ntmps60, List.size_toArray, List.length_cons, List.length_nil, Nat.reduceAdd, Nat.reduceSub, Array.replicate_succ,
     Array.replicate_zero, List.push_toArray, List.append_toArray, List.nil_append, List.cons_append]
  apply wpS_seq
  apply wpS_region
  simp [wpOpsS, go_sem, recoverD_panic hu, Exit.thenS]
  refine wpS_of_wp ?_
  have H := Lib.hid hu; clear hu
  go_wp2_with (go_at_call 43; refine (there_any _ _).mono ?_; rintro e w' ⟨rfl, rfl⟩)
  refine ⟨rfl, _, rfl, _, results_none rfl _ _ _, rfl, rfl, ?_, ?_, ?_⟩
  · rw [heap_alloc_lt (by simpa using l0), heap_setCell_ne (by omega), heap_setCell_at (heap_setCell_at H0.out)]; rfl
  · rw [heap_alloc_lt (by simpa using l1), heap_setCell_at ((heap_setCell_ne (by omega)).trans ((heap_setCell_ne (by omega)).trans H1.out))]; rfl
  · exact ((((Below.refl _ _).setCell (by simp) _).setCell (by simp) _).setCell (by simp) _).alloc (by simp; omega) _

set_option maxRecDepth 20000 in
theorem catch_bad (B : Nat) (k m : Int) (hk : k < 1 ∨ 2 < k) (older : List PanicEntry) (w : World) (k0 m0 : Int) (hB : w.heap[B]? = some (.cells #[.int .u8 k0, .int .i64 m0] 23)) (hC : w.heap[B + 1]? = some (.cells #[.bool false] 4)) :
    CallsD Try.prog 60 #[.pointer (some ⟨B, 0, none⟩), .pointer (some ⟨B + 1, 0, none⟩)] (.panicking ({ v := .iface 23 (.agg #[.int .u8 k, .int .i64 m]), recovered := false } :: older)) w fun e u' w' => e = .panicked [{ v := .iface 23 (.agg #[.int .u8 k, .int .i64 m]), recovered := false }] ∧ u' = .panicking ({ v := .iface 23 (.agg #[.int .u8 k, .int .i64 m]), recovered := true } :: older) ∧ Below B w w' := by
  have hta := assert_fault
  have hb : (decide (1 ≤ k) && decide (k ≤ 2)) = false := by simp; omega
  obtain ⟨c0, c1, f0, f1⟩ := cell_two hB
  obtain ⟨c2, f2⟩ := cell_one hC
  have l0 := lt_of_block hB
  have l1 := lt_of_block hC
  have ca := fun o off => cell_alloc_lt (o := o) (off := off) l0
  have ca' := fun o off => cell_alloc_lt (o := o) (off := off) l1
  have fa := fun o off => frozen_alloc_lt (o := o) (off := off) l0
  have fa' := fun o off => frozen_alloc_lt (o := o) (off := off) l1
  have H0 := Lib.hid hB; have H1 := Lib.hid hC; clear hB hC
  refine callsD_of_wpS Try.func60 rfl fun c₀ cs hu => ?_
  simp only [Try.ntmps60, List.size_toArray, List.length_cons, List.length_nil, Nat.reduceAdd, Nat.reduceSub, Array.replicate_succ,
     Array.replicate_zero, List.push_toArray, List.append_toArray, List.nil_append, List.cons_append]
  apply wpS_seq
  apply wpS_region
  simp [wpOpsS, go_sem, recoverD_panic hu, Exit.thenS]
  refine wpS_of_wp ?_
  have H := Lib.hid hu; clear hu
  go_wp2_with (go_at_call 43; refine (there_any _ _).mono ?_; rintro e w' ⟨rfl, rfl⟩)
  exact ⟨rfl, _, rfl, rfl, rfl, (Below.refl _ _).alloc (by omega) _⟩

set_option maxRecDepth 20000 in
theorem catch_other (B : Nat) (t : TypeId) (ht : t ≠ 23) (x : Value) (older : List PanicEntry) (w : World) (k0 m0 : Int) (hB : w.heap[B]? = some (.cells #[.int .u8 k0, .int .i64 m0] 23)) (hC : w.heap[B + 1]? = some (.cells #[.bool false] 4)) :
    CallsD Try.prog 60 #[.pointer (some ⟨B, 0, none⟩), .pointer (some ⟨B + 1, 0, none⟩)] (.panicking ({ v := .iface t x, recovered := false } :: older)) w fun e u' w' => e = .panicked [{ v := .iface t x, recovered := false }] ∧ u' = .panicking ({ v := .iface t x, recovered := true } :: older) ∧ Below B w w' := by
  have hta := assert_other t ht
  obtain ⟨c0, c1, f0, f1⟩ := cell_two hB
  obtain ⟨c2, f2⟩ := cell_one hC
  have l0 := lt_of_block hB
  have l1 := lt_of_block hC
  have ca := fun o off => cell_alloc_lt (o := o) (off := off) l0
  have ca' := fun o off => cell_alloc_lt (o := o) (off := off) l1
  have fa := fun o off => frozen_alloc_lt (o := o) (off := off) l0
  have fa' := fun o off => frozen_alloc_lt (o := o) (off := off) l1
  have H0 := Lib.hid hB; have H1 := Lib.hid hC; clear hB hC
  refine callsD_of_wpS Try.func60 rfl fun c₀ cs hu => ?_
  simp only [Try.ntmps60, List.size_toArray, List.length_cons, List.length_nil, Nat.reduceAdd, Nat.reduceSub, Array.replicate_succ,
     Array.replicate_zero, List.push_toArray, List.append_toArray, List.nil_append, List.cons_append]
  apply wpS_seq
  apply wpS_region
  simp [wpOpsS, go_sem, recoverD_panic hu, Exit.thenS]
  refine wpS_of_wp ?_
  have H := Lib.hid hu; clear hu
  go_wp2_with (go_at_call 43; refine (there_any _ _).mono ?_; rintro e w' ⟨rfl, rfl⟩)
  exact ⟨rfl, _, rfl, rfl, rfl, (Below.refl _ _).alloc (by omega) _⟩
end Go.Proofs.Ytpjccbbemhjgbaa
