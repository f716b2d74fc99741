import Derived.Test.YtpjccbbemhjgbaaG
namespace Go.Proofs.Ytpjccbbemhjgbaa
open Go.RowKit

abbrev flt (k m : Int) : Value := .agg #[.int .u8 k, .int .i64 m]

/-- Worse returns its second fault. -/
theorem worse_b (k m l n : Int) (h : l < k ∨ (l = k ∧ m < n)) (w : World) :
    Calls Try.prog 36 #[flt k m, flt l n] w fun e w' => e = .returned (flt l n) ∧ Below w.heap.size w w' := by
  rcases h with h | ⟨rfl, h⟩
  · go_enter Try.func36, Try.ntmps36
    go_wp2_with fail
    exact bodyPost_ret (v := flt l n) (by simp [results, Try.results36, go_sem]) rfl ⟨rfl, balloc (balloc (balloc (Below.refl _ _) _) _) _⟩
  · go_enter Try.func36, Try.ntmps36
    go_wp2_with fail
    exact bodyPost_ret (v := flt l n) (by simp [results, Try.results36, go_sem]) rfl ⟨rfl, balloc (balloc (balloc (Below.refl _ _) _) _) _⟩

/-- Worse returns its first fault. -/
theorem worse_a (k m l n : Int) (h : k < l ∨ (l = k ∧ n ≤ m)) (w : World) :
    Calls Try.prog 36 #[flt k m, flt l n] w fun e w' => e = .returned (flt k m) ∧ Below w.heap.size w w' := by
  rcases h with h | ⟨rfl, h⟩
  · have h1 : ¬ l < k := by omega
    have h2 : (l == k) = false := by simpa using (by omega : ¬ l = k)
    go_enter Try.func36, Try.ntmps36
    go_wp2_with fail
    exact bodyPost_ret (v := flt k m) (by simp [results, Try.results36, go_sem]) rfl ⟨rfl, balloc (balloc (balloc (Below.refl _ _) _) _) _⟩
  · have h1 : ¬ m < n := by omega
    go_enter Try.func36, Try.ntmps36
    go_wp2_with fail
    exact bodyPost_ret (v := flt l m) (by simp [results, Try.results36, go_sem]) rfl ⟨rfl, balloc (balloc (balloc (Below.refl _ _) _) _) _⟩

abbrev two (k m : Int) : Value := .agg #[.int .i64 k, .int .i64 m]

theorem rworse_b (k m l n : Int) (h : l < k ∨ (l = k ∧ m < n)) (w : World) :
    Calls Try.prog 39 #[two k m, two l n] w fun e w' => e = .returned (two l n) ∧ Below w.heap.size w w' := by
  rcases h with h | ⟨rfl, h⟩
  · have h1 : (k == l) = false := by simpa using (by omega : ¬ k = l)
    have h2 : (k != l) = true := by simpa using (by omega : ¬ k = l)
    have h3 : ¬ k < l := by omega
    go_enter Try.func39, Try.ntmps39
    go_wp2_with fail
    exact bodyPost_ret (v := two l n) (by simp [results, Try.results39, go_sem]) rfl ⟨rfl, balloc (balloc (balloc (Below.refl _ _) _) _) _⟩
  · go_enter Try.func39, Try.ntmps39
    go_wp2_with fail
    exact bodyPost_ret (v := two l n) (by simp [results, Try.results39, go_sem]) rfl ⟨rfl, balloc (balloc (balloc (Below.refl _ _) _) _) _⟩

theorem rworse_a (k m l n : Int) (h : k < l ∨ (l = k ∧ n ≤ m)) (w : World) :
    Calls Try.prog 39 #[two k m, two l n] w fun e w' => e = .returned (two k m) ∧ Below w.heap.size w w' := by
  rcases h with h | ⟨rfl, h⟩
  · have h1 : (k == l) = false := by simpa using (by omega : ¬ k = l)
    have h2 : (k != l) = true := by simpa using (by omega : ¬ k = l)
    go_enter Try.func39, Try.ntmps39
    go_wp2_with fail
    exact bodyPost_ret (v := two k m) (by simp [results, Try.results39, go_sem]) rfl ⟨rfl, balloc (balloc (balloc (Below.refl _ _) _) _) _⟩
  · have h1 : ¬ m < n := by omega
    go_enter Try.func39, Try.ntmps39
    go_wp2_with fail
    exact bodyPost_ret (v := two l m) (by simp [results, Try.results39, go_sem]) rfl ⟨rfl, balloc (balloc (balloc (Below.refl _ _) _) _) _⟩

set_option maxRecDepth 20000 in
theorem name_1 (w : World) : Calls Try.prog 40 #[.int .u8 1] w fun e w' => e = .returned (.string ⟨#[102, 117, 101, 108]⟩) ∧ w = w' := by
  have hidx : ∀ w, (Instr.index 85 (.agg #[.string ⟨#[]⟩, .string ⟨#[102, 117, 101, 108]⟩, .string ⟨#[115, 105, 122, 101]⟩]) (.int .u8 1)).run Try.prog w = .ok (.string ⟨#[102, 117, 101, 108]⟩) w := fun _ => by kernel_rfl
  go_enter Try.func40, Try.ntmps40
  go_wp2_with (go_at_call 43; refine (there_any _ _).mono ?_; rintro e w' ⟨rfl, rfl⟩)
  go_ret
  exact ⟨rfl, rfl⟩
set_option maxRecDepth 20000 in
theorem name_2 (w : World) : Calls Try.prog 40 #[.int .u8 2] w fun e w' => e = .returned (.string ⟨#[115, 105, 122, 101]⟩) ∧ w = w' := by
  have hidx : ∀ w, (Instr.index 85 (.agg #[.string ⟨#[]⟩, .string ⟨#[102, 117, 101, 108]⟩, .string ⟨#[115, 105, 122, 101]⟩]) (.int .u8 2)).run Try.prog w = .ok (.string ⟨#[115, 105, 122, 101]⟩) w := fun _ => by kernel_rfl
  go_enter Try.func40, Try.ntmps40
  go_wp2_with (go_at_call 43; refine (there_any _ _).mono ?_; rintro e w' ⟨rfl, rfl⟩)
  go_ret
  exact ⟨rfl, rfl⟩
theorem name_no (k : Int) (hk : k < 1 ∨ 2 < k) (w : World) : Calls Try.prog 40 #[.int .u8 k] w fun e w' => e = .returned (.string ⟨#[]⟩) ∧ w = w' := by
  have hb : (decide (1 ≤ k) && decide (k ≤ 2)) = false := by simp; omega
  go_enter Try.func40, Try.ntmps40
  go_wp2_with (go_at_call 43; refine (there_any _ _).mono ?_; rintro e w' ⟨rfl, rfl⟩)
  go_ret
  exact ⟨rfl, rfl⟩


set_option maxHeartbeats 1000000 in
theorem fworse_a1 (k m l n : Int) (hk0 : 0 ≤ k) (hk : k ≤ 255) (hl0 : 0 ≤ l) (hl : l ≤ 255) (h : k < l ∨ (l = k ∧ n ≤ m)) (w : World) :
    Calls Try.prog 10 #[flt k m, flt l n, .int .u8 1] w fun e w' => e = .returned (.bool true) ∧ Below w.heap.size w w' := by
  have HH := Lib.hid h
  clear h
  go_enter Try.func10, Try.ntmps10
  go_wp2_with fail
  refine (worse_a _ _ _ _ HH.out _).mono ?_
  rintro e w1 ⟨rfl, hb1⟩
  have hk1 := carry hb1 (al nw)
  have hl1 := carry hb1 nw1
  have HB1 := Lib.hid (bnext (balloc (balloc (Below.refl _ w) _) _) hb1)
  have hz := hb1.size
  have l0 : w.heap.size < w1.heap.size := lt_of_block hk1
  have l1 : w.heap.size + 1 < w1.heap.size := lt_of_block hl1
  obtain ⟨c0, c1, f0, f1⟩ := cell_two hk1
  obtain ⟨c2, c3, f2, f3⟩ := cell_two hl1
  have a0 := fun o off => cell_alloc_lt (o := o) (off := off) l0
  have a1 := fun o off => cell_alloc_lt (o := o) (off := off) l1
  clear hb1 hz hk1 hl1
  dsimp only
  go_wp2_with fail
  refine (rworse_a _ _ _ _ HH.out _).mono ?_
  rintro e w2 ⟨rfl, hb2⟩
  have hx2 := carry hb2 nw
  have HB2 := Lib.hid (bnext (balloc HB1.out _) hb2)
  obtain ⟨c4, c5, f4, f5⟩ := cell_two hx2
  have l2 : w1.heap.size < w2.heap.size := lt_of_block hx2
  have a2 := fun o off => cell_alloc_lt (o := o) (off := off) l2
  clear hb2 hx2 HB1 c0 c1 f0 f1 c2 c3 f2 f3 a0 a1
  generalize w1.heap.size = N1 at *
  dsimp only
  go_wp2_with (go_at_call 40; refine (name_1 _).mono ?_; rintro e w' ⟨rfl, rfl⟩)
  refine (awake_true _).mono ?_
  rintro e w3 ⟨rfl, hb3⟩
  have HB3 := Lib.hid (bnext (balloc HB2.out _) hb3)
  clear hb3
  dsimp only
  go_wp2_with fail
  go_ret
  exact ⟨rfl, HB3.out⟩

set_option maxHeartbeats 1000000 in
theorem fworse_a2 (k m l n : Int) (hk0 : 0 ≤ k) (hk : k ≤ 255) (hl0 : 0 ≤ l) (hl : l ≤ 255) (h : k < l ∨ (l = k ∧ n ≤ m)) (w : World) :
    Calls Try.prog 10 #[flt k m, flt l n, .int .u8 2] w fun e w' => e = .returned (.bool true) ∧ Below w.heap.size w w' := by
  have HH := Lib.hid h
  clear h
  go_enter Try.func10, Try.ntmps10
  go_wp2_with fail
  refine (worse_a _ _ _ _ HH.out _).mono ?_
  rintro e w1 ⟨rfl, hb1⟩
  have hk1 := carry hb1 (al nw)
  have hl1 := carry hb1 nw1
  have HB1 := Lib.hid (bnext (balloc (balloc (Below.refl _ w) _) _) hb1)
  have hz := hb1.size
  have l0 : w.heap.size < w1.heap.size := lt_of_block hk1
  have l1 : w.heap.size + 1 < w1.heap.size := lt_of_block hl1
  obtain ⟨c0, c1, f0, f1⟩ := cell_two hk1
  obtain ⟨c2, c3, f2, f3⟩ := cell_two hl1
  have a0 := fun o off => cell_alloc_lt (o := o) (off := off) l0
  have a1 := fun o off => cell_alloc_lt (o := o) (off := off) l1
  clear hb1 hz hk1 hl1
  dsimp only
  go_wp2_with fail
  refine (rworse_a _ _ _ _ HH.out _).mono ?_
  rintro e w2 ⟨rfl, hb2⟩
  have hx2 := carry hb2 nw
  have HB2 := Lib.hid (bnext (balloc HB1.out _) hb2)
  obtain ⟨c4, c5, f4, f5⟩ := cell_two hx2
  have l2 : w1.heap.size < w2.heap.size := lt_of_block hx2
  have a2 := fun o off => cell_alloc_lt (o := o) (off := off) l2
  clear hb2 hx2 HB1 c0 c1 f0 f1 c2 c3 f2 f3 a0 a1
  generalize w1.heap.size = N1 at *
  dsimp only
  go_wp2_with (go_at_call 40; refine (name_2 _).mono ?_; rintro e w' ⟨rfl, rfl⟩)
  refine (awake_true _).mono ?_
  rintro e w3 ⟨rfl, hb3⟩
  have HB3 := Lib.hid (bnext (balloc HB2.out _) hb3)
  clear hb3
  dsimp only
  go_wp2_with fail
  go_ret
  exact ⟨rfl, HB3.out⟩

set_option maxHeartbeats 1000000 in
theorem fworse_ano (k m l n c : Int) (hk0 : 0 ≤ k) (hk : k ≤ 255) (hl0 : 0 ≤ l) (hl : l ≤ 255) (h : k < l ∨ (l = k ∧ n ≤ m)) (hc : c < 1 ∨ 2 < c) (hc1 : (c == 1) = false) (hc2 : (c == 2) = false) (w : World) :
    Calls Try.prog 10 #[flt k m, flt l n, .int .u8 c] w fun e w' => e = .returned (.bool true) ∧ Below w.heap.size w w' := by
  have HH := Lib.hid h
  have HC := Lib.hid hc
  clear h hc
  go_enter Try.func10, Try.ntmps10
  go_wp2_with fail
  refine (worse_a _ _ _ _ HH.out _).mono ?_
  rintro e w1 ⟨rfl, hb1⟩
  have hk1 := carry hb1 (al nw)
  have hl1 := carry hb1 nw1
  have HB1 := Lib.hid (bnext (balloc (balloc (Below.refl _ w) _) _) hb1)
  have hz := hb1.size
  have l0 : w.heap.size < w1.heap.size := lt_of_block hk1
  have l1 : w.heap.size + 1 < w1.heap.size := lt_of_block hl1
  obtain ⟨c0, c1, f0, f1⟩ := cell_two hk1
  obtain ⟨c2, c3, f2, f3⟩ := cell_two hl1
  have a0 := fun o off => cell_alloc_lt (o := o) (off := off) l0
  have a1 := fun o off => cell_alloc_lt (o := o) (off := off) l1
  clear hb1 hz hk1 hl1
  dsimp only
  go_wp2_with fail
  refine (rworse_a _ _ _ _ HH.out _).mono ?_
  rintro e w2 ⟨rfl, hb2⟩
  have hx2 := carry hb2 nw
  have HB2 := Lib.hid (bnext (balloc HB1.out _) hb2)
  obtain ⟨c4, c5, f4, f5⟩ := cell_two hx2
  have l2 : w1.heap.size < w2.heap.size := lt_of_block hx2
  have a2 := fun o off => cell_alloc_lt (o := o) (off := off) l2
  clear hb2 hx2 HB1 c0 c1 f0 f1 c2 c3 f2 f3 a0 a1
  generalize w1.heap.size = N1 at *
  dsimp only
  go_wp2_with (go_at_call 40; refine (name_no _ HC.out _).mono ?_; rintro e w' ⟨rfl, rfl⟩)
  refine (awake_true _).mono ?_
  rintro e w3 ⟨rfl, hb3⟩
  have HB3 := Lib.hid (bnext (balloc HB2.out _) hb3)
  clear hb3
  dsimp only
  go_wp2_with fail
  go_ret
  exact ⟨rfl, HB3.out⟩

set_option maxHeartbeats 1000000 in
theorem fworse_b1 (k m l n : Int) (hk0 : 0 ≤ k) (hk : k ≤ 255) (hl0 : 0 ≤ l) (hl : l ≤ 255) (h : l < k ∨ (l = k ∧ m < n)) (w : World) :
    Calls Try.prog 10 #[flt k m, flt l n, .int .u8 1] w fun e w' => e = .returned (.bool true) ∧ Below w.heap.size w w' := by
  have HH := Lib.hid h
  clear h
  go_enter Try.func10, Try.ntmps10
  go_wp2_with fail
  refine (worse_b _ _ _ _ HH.out _).mono ?_
  rintro e w1 ⟨rfl, hb1⟩
  have hk1 := carry hb1 (al nw)
  have hl1 := carry hb1 nw1
  have HB1 := Lib.hid (bnext (balloc (balloc (Below.refl _ w) _) _) hb1)
  have hz := hb1.size
  have l0 : w.heap.size < w1.heap.size := lt_of_block hk1
  have l1 : w.heap.size + 1 < w1.heap.size := lt_of_block hl1
  obtain ⟨c0, c1, f0, f1⟩ := cell_two hk1
  obtain ⟨c2, c3, f2, f3⟩ := cell_two hl1
  have a0 := fun o off => cell_alloc_lt (o := o) (off := off) l0
  have a1 := fun o off => cell_alloc_lt (o := o) (off := off) l1
  clear hb1 hz hk1 hl1
  dsimp only
  go_wp2_with fail
  refine (rworse_b _ _ _ _ HH.out _).mono ?_
  rintro e w2 ⟨rfl, hb2⟩
  have hx2 := carry hb2 nw
  have HB2 := Lib.hid (bnext (balloc HB1.out _) hb2)
  obtain ⟨c4, c5, f4, f5⟩ := cell_two hx2
  have l2 : w1.heap.size < w2.heap.size := lt_of_block hx2
  have a2 := fun o off => cell_alloc_lt (o := o) (off := off) l2
  clear hb2 hx2 HB1 c0 c1 f0 f1 c2 c3 f2 f3 a0 a1
  generalize w1.heap.size = N1 at *
  dsimp only
  go_wp2_with (go_at_call 40; refine (name_1 _).mono ?_; rintro e w' ⟨rfl, rfl⟩)
  refine (awake_true _).mono ?_
  rintro e w3 ⟨rfl, hb3⟩
  have HB3 := Lib.hid (bnext (balloc HB2.out _) hb3)
  clear hb3
  dsimp only
  go_wp2_with fail
  go_ret
  exact ⟨rfl, HB3.out⟩

set_option maxHeartbeats 1000000 in
theorem fworse_b2 (k m l n : Int) (hk0 : 0 ≤ k) (hk : k ≤ 255) (hl0 : 0 ≤ l) (hl : l ≤ 255) (h : l < k ∨ (l = k ∧ m < n)) (w : World) :
    Calls Try.prog 10 #[flt k m, flt l n, .int .u8 2] w fun e w' => e = .returned (.bool true) ∧ Below w.heap.size w w' := by
  have HH := Lib.hid h
  clear h
  go_enter Try.func10, Try.ntmps10
  go_wp2_with fail
  refine (worse_b _ _ _ _ HH.out _).mono ?_
  rintro e w1 ⟨rfl, hb1⟩
  have hk1 := carry hb1 (al nw)
  have hl1 := carry hb1 nw1
  have HB1 := Lib.hid (bnext (balloc (balloc (Below.refl _ w) _) _) hb1)
  have hz := hb1.size
  have l0 : w.heap.size < w1.heap.size := lt_of_block hk1
  have l1 : w.heap.size + 1 < w1.heap.size := lt_of_block hl1
  obtain ⟨c0, c1, f0, f1⟩ := cell_two hk1
  obtain ⟨c2, c3, f2, f3⟩ := cell_two hl1
  have a0 := fun o off => cell_alloc_lt (o := o) (off := off) l0
  have a1 := fun o off => cell_alloc_lt (o := o) (off := off) l1
  clear hb1 hz hk1 hl1
  dsimp only
  go_wp2_with fail
  refine (rworse_b _ _ _ _ HH.out _).mono ?_
  rintro e w2 ⟨rfl, hb2⟩
  have hx2 := carry hb2 nw
  have HB2 := Lib.hid (bnext (balloc HB1.out _) hb2)
  obtain ⟨c4, c5, f4, f5⟩ := cell_two hx2
  have l2 : w1.heap.size < w2.heap.size := lt_of_block hx2
  have a2 := fun o off => cell_alloc_lt (o := o) (off := off) l2
  clear hb2 hx2 HB1 c0 c1 f0 f1 c2 c3 f2 f3 a0 a1
  generalize w1.heap.size = N1 at *
  dsimp only
  go_wp2_with (go_at_call 40; refine (name_2 _).mono ?_; rintro e w' ⟨rfl, rfl⟩)
  refine (awake_true _).mono ?_
  rintro e w3 ⟨rfl, hb3⟩
  have HB3 := Lib.hid (bnext (balloc HB2.out _) hb3)
  clear hb3
  dsimp only
  go_wp2_with fail
  go_ret
  exact ⟨rfl, HB3.out⟩

set_option maxHeartbeats 1000000 in
theorem fworse_bno (k m l n c : Int) (hk0 : 0 ≤ k) (hk : k ≤ 255) (hl0 : 0 ≤ l) (hl : l ≤ 255) (h : l < k ∨ (l = k ∧ m < n)) (hc : c < 1 ∨ 2 < c) (hc1 : (c == 1) = false) (hc2 : (c == 2) = false) (w : World) :
    Calls Try.prog 10 #[flt k m, flt l n, .int .u8 c] w fun e w' => e = .returned (.bool true) ∧ Below w.heap.size w w' := by
  have HH := Lib.hid h
  have HC := Lib.hid hc
  clear h hc
  go_enter Try.func10, Try.ntmps10
  go_wp2_with fail
  refine (worse_b _ _ _ _ HH.out _).mono ?_
  rintro e w1 ⟨rfl, hb1⟩
  have hk1 := carry hb1 (al nw)
  have hl1 := carry hb1 nw1
  have HB1 := Lib.hid (bnext (balloc (balloc (Below.refl _ w) _) _) hb1)
  have hz := hb1.size
  have l0 : w.heap.size < w1.heap.size := lt_of_block hk1
  have l1 : w.heap.size + 1 < w1.heap.size := lt_of_block hl1
  obtain ⟨c0, c1, f0, f1⟩ := cell_two hk1
  obtain ⟨c2, c3, f2, f3⟩ := cell_two hl1
  have a0 := fun o off => cell_alloc_lt (o := o) (off := off) l0
  have a1 := fun o off => cell_alloc_lt (o := o) (off := off) l1
  clear hb1 hz hk1 hl1
  dsimp only
  go_wp2_with fail
  refine (rworse_b _ _ _ _ HH.out _).mono ?_
  rintro e w2 ⟨rfl, hb2⟩
  have hx2 := carry hb2 nw
  have HB2 := Lib.hid (bnext (balloc HB1.out _) hb2)
  obtain ⟨c4, c5, f4, f5⟩ := cell_two hx2
  have l2 : w1.heap.size < w2.heap.size := lt_of_block hx2
  have a2 := fun o off => cell_alloc_lt (o := o) (off := off) l2
  clear hb2 hx2 HB1 c0 c1 f0 f1 c2 c3 f2 f3 a0 a1
  generalize w1.heap.size = N1 at *
  dsimp only
  go_wp2_with (go_at_call 40; refine (name_no _ HC.out _).mono ?_; rintro e w' ⟨rfl, rfl⟩)
  refine (awake_true _).mono ?_
  rintro e w3 ⟨rfl, hb3⟩
  have HB3 := Lib.hid (bnext (balloc HB2.out _) hb3)
  clear hb3
  dsimp only
  go_wp2_with fail
  go_ret
  exact ⟨rfl, HB3.out⟩

end Go.Proofs.Ytpjccbbemhjgbaa
