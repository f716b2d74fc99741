import Derived.Test.YtpjccbbemhjgbaaB
namespace Go.Proofs.Ytpjccbbemhjgbaa
open Go.RowKit

theorem run_bounds (k : IntKind) (x y : Int) (c : BoundsCode) (w : World) :
    ∃ v w', (boundsPanic k x y c : Sem Value).run Try.prog w = .halt (.panic (.iface 8 v)) w' ∧ (w' = w ∨ w' = w.drew) := by
  unfold boundsPanic
  split
  · simp only [runtimePanic, goPanic, go_sem]
    simp
    split
    · exact ⟨_, _, rfl, Or.inl rfl⟩
    · exact ⟨_, _, rfl, Or.inr rfl⟩
  · simp only [runtimePanic, goPanic, go_sem]
    simp
    exact ⟨_, _, ⟨rfl, rfl⟩, Or.inl rfl⟩

theorem run_index_nil (n : Int) (w : World) :
    ∃ v w', (Instr.indexAt 47 (.slice none 0 0) (.int .i64 n)).run Try.prog w = .halt (.panic (.iface 8 v)) w' ∧ (w' = w ∨ w' = w.drew) := by
  have hu := Try.underlying47
  have e : (Instr.indexAt 47 (.slice none 0 0) (.int .i64 n)).run Try.prog w = (boundsPanic .i64 n 0 .index : Sem Value).run Try.prog w := by
    simp [Instr.indexAt, run_underlying hu, asIntOf]
  rw [e]
  exact run_bounds _ _ _ _ _

set_option maxRecDepth 20000 in
theorem boom_any (n : Int) (w : World) :
    Calls Try.prog 16 #[.int .i64 n] w fun e w' => ∃ x, e = .panicked [{ v := .iface 8 x, recovered := false }] ∧ (w' = w ∨ w' = w.drew) := by
  by_cases h : 0 ≤ n
  · have h0 : ¬ (n < 0) := by omega
    obtain ⟨v, w1, hr, hw⟩ := run_index_nil n w
    have HW := Lib.hid hw; clear hw
    go_enter Try.func16, Try.ntmps16
    go_wp2_with fail
    exact ⟨rfl, ⟨_, rfl⟩, HW.out⟩
  · obtain ⟨v, w1, hr, hw⟩ := run_index_nil 0 w
    have HW := Lib.hid hw; clear hw
    go_enter Try.func16, Try.ntmps16
    go_wp2_with fail
    exact ⟨rfl, ⟨_, rfl⟩, HW.out⟩

theorem cell_four {w : World} {b : Nat} {p q r s : Value} {t : TypeId} (h : w.heap[b]? = some (.cells #[p, q, r, s] t (0, 0))) :
    w.cell? ⟨b, 0, none⟩ = some p ∧ w.cell? ⟨b, 1, none⟩ = some q ∧ w.cell? ⟨b, 2, none⟩ = some r ∧ w.cell? ⟨b, 3, none⟩ = some s ∧ 
    w.frozen? ⟨b, 0, none⟩ = false ∧ w.frozen? ⟨b, 1, none⟩ = false ∧ w.frozen? ⟨b, 2, none⟩ = false ∧ w.frozen? ⟨b, 3, none⟩ = false := by simp [World.cell?, World.frozen?, h]

theorem newMeter_ok (f : Int) (h0 : 0 ≤ f) (h1 : f ≤ 1048576) (w : World) :
    Calls Try.prog 37 #[.int .i64 f] w fun e w' => e = .returned (.tuple #[.pointer (some ⟨w.heap.size, 0, none⟩), .int .i64 0]) ∧ w' = w.alloc (.cells #[.int .i64 f, .int .i64 f, .int .i64 0, .bool true] 58) := by
  go_enter Try.func37, Try.ntmps37
  go_wp2
  go_ret2
  exact ⟨rfl, rfl⟩

theorem newMeter_bad (f : Int) (h0 : f < 0 ∨ 1048576 < f) (w : World) :
    Calls Try.prog 37 #[.int .i64 f] w fun e w' => e = .returned (.tuple #[.pointer none, .int .i64 2]) ∧ w = w' := by
  rcases h0 with h0 | h0
  · go_enter Try.func37, Try.ntmps37
    go_wp2
    go_ret2
    exact ⟨rfl, rfl⟩
  · have h2 : ¬ f < 0 := by omega
    go_enter Try.func37, Try.ntmps37
    go_wp2
    go_ret2
    exact ⟨rfl, rfl⟩

/-- A meter in memory. -/
abbrev meterAt (w : World) (b : Nat) (f l u : Int) : Prop := w.heap[b]? = some (.cells #[.int .i64 f, .int .i64 l, .int .i64 u, .bool true] 58)

theorem is_yes (b : Nat) (f l u : Int) (w : World) (hm : meterAt w b f l u) :
    Calls Try.prog 59 #[.pointer (some ⟨b, 0, none⟩)] w fun e w' => e = .returned (.bool true) ∧ w = w' := by
  obtain ⟨c0, c1, c2, c3, f0, f1, f2, f3⟩ := cell_four hm
  clear hm
  go_enter Try.func59, Try.ntmps59
  go_wp2
  go_ret
  exact ⟨rfl, rfl⟩

theorem is_nil (w : World) :
    Calls Try.prog 59 #[.pointer none] w fun e w' => e = .returned (.bool false) ∧ w = w' := by
  go_enter Try.func59, Try.ntmps59
  go_wp2
  go_ret
  exact ⟨rfl, rfl⟩

theorem is_no (b : Nat) (w : World) (hm : w.heap[b]? = some (.cells #[.int .i64 0, .int .i64 0, .int .i64 0, .bool false] 58)) :
    Calls Try.prog 59 #[.pointer (some ⟨b, 0, none⟩)] w fun e w' => e = .returned (.bool false) ∧ w = w' := by
  obtain ⟨c0, c1, c2, c3, f0, f1, f2, f3⟩ := cell_four hm
  clear hm
  go_enter Try.func59, Try.ntmps59
  go_wp2
  go_ret
  exact ⟨rfl, rfl⟩

theorem use_ok (b : Nat) (n f l u : Int) (w : World) (hm : meterAt w b f l u) (h1 : 1 ≤ n) (h2 : n ≤ l) (hl : l ≤ 1048576) (hu : 0 ≤ u) (hu2 : u ≤ 1000000000000) :
    Calls Try.prog 31 #[.pointer (some ⟨b, 0, none⟩), .int .i64 n] w fun e w' => e = .returned (.int .i64 0) ∧ w' = (w.setCell ⟨b, 1, none⟩ (.int .i64 (l - n))).setCell ⟨b, 2, none⟩ (.int .i64 (u + n)) := by
  have HM := Lib.hid hm
  obtain ⟨c0, c1, c2, c3, f0, f1, f2, f3⟩ := cell_four hm
  clear hm
  go_enter Try.func31, Try.ntmps31
  go_wp2_with (go_at_call 59; refine (is_yes _ _ _ _ _ HM.out).mono ?_; rintro e w' ⟨rfl, rfl⟩)
  go_ret
  exact ⟨rfl, rfl⟩

theorem use_small (b : Nat) (n f l u : Int) (w : World) (hm : meterAt w b f l u) (h1 : n < 1) :
    Calls Try.prog 31 #[.pointer (some ⟨b, 0, none⟩), .int .i64 n] w fun e w' => e = .returned (.int .i64 2) ∧ w = w' := by
  have HM := Lib.hid hm
  obtain ⟨c0, c1, c2, c3, f0, f1, f2, f3⟩ := cell_four hm
  clear hm
  go_enter Try.func31, Try.ntmps31
  go_wp2_with (go_at_call 59; refine (is_yes _ _ _ _ _ HM.out).mono ?_; rintro e w' ⟨rfl, rfl⟩)
  go_ret
  exact ⟨rfl, rfl⟩

theorem use_much (b : Nat) (n f l u : Int) (w : World) (hm : meterAt w b f l u) (h1 : 1 ≤ n) (h2 : l < n) :
    Calls Try.prog 31 #[.pointer (some ⟨b, 0, none⟩), .int .i64 n] w fun e w' => e = .panicked [{ v := .iface 23 (.agg #[.int .u8 1, .int .i64 n]), recovered := false }] ∧ w = w' := by
  have HM := Lib.hid hm
  obtain ⟨c0, c1, c2, c3, f0, f1, f2, f3⟩ := cell_four hm
  clear hm
  go_enter Try.func31, Try.ntmps31
  go_wp2_with (first | (go_at_call 59; refine (is_yes _ _ _ _ _ HM.out).mono ?_; rintro e w' ⟨rfl, rfl⟩) | (go_at_call 17; refine (throw_good _ _ (by decide) (by decide) _).mono ?_; rintro e w' ⟨rfl, rfl⟩))
  exact ⟨rfl, rfl, rfl⟩

theorem use_nil (n : Int) (w : World) :
    Calls Try.prog 31 #[.pointer none, .int .i64 n] w fun e w' => e = .returned (.int .i64 1) ∧ w = w' := by
  go_enter Try.func31, Try.ntmps31
  go_wp2_with (go_at_call 59; refine (is_nil _).mono ?_; rintro e w' ⟨rfl, rfl⟩)
  go_ret
  exact ⟨rfl, rfl⟩

theorem fill_ok (b : Nat) (f l u : Int) (w : World) (hm : meterAt w b f l u) :
    Calls Try.prog 32 #[.pointer (some ⟨b, 0, none⟩)] w fun e w' => e = .returned (.int .i64 0) ∧ w' = w.setCell ⟨b, 1, none⟩ (.int .i64 f) := by
  have HM := Lib.hid hm
  obtain ⟨c0, c1, c2, c3, f0, f1, f2, f3⟩ := cell_four hm
  clear hm
  go_enter Try.func32, Try.ntmps32
  go_wp2_with (go_at_call 59; refine (is_yes _ _ _ _ _ HM.out).mono ?_; rintro e w' ⟨rfl, rfl⟩)
  go_ret
  exact ⟨rfl, rfl⟩

theorem left_ok (b : Nat) (f l u : Int) (w : World) (hm : meterAt w b f l u) :
    Calls Try.prog 33 #[.pointer (some ⟨b, 0, none⟩)] w fun e w' => e = .returned (.int .i64 l) ∧ w = w' := by
  have HM := Lib.hid hm
  obtain ⟨c0, c1, c2, c3, f0, f1, f2, f3⟩ := cell_four hm
  clear hm
  go_enter Try.func33, Try.ntmps33
  go_wp2_with (go_at_call 59; refine (is_yes _ _ _ _ _ HM.out).mono ?_; rintro e w' ⟨rfl, rfl⟩)
  go_ret
  exact ⟨rfl, rfl⟩

theorem used_ok (b : Nat) (f l u : Int) (w : World) (hm : meterAt w b f l u) :
    Calls Try.prog 34 #[.pointer (some ⟨b, 0, none⟩)] w fun e w' => e = .returned (.int .i64 u) ∧ w = w' := by
  have HM := Lib.hid hm
  obtain ⟨c0, c1, c2, c3, f0, f1, f2, f3⟩ := cell_four hm
  clear hm
  go_enter Try.func34, Try.ntmps34
  go_wp2_with (go_at_call 59; refine (is_yes _ _ _ _ _ HM.out).mono ?_; rintro e w' ⟨rfl, rfl⟩)
  go_ret
  exact ⟨rfl, rfl⟩

/-! Fits -/
theorem fits_ok (s : ByteArray) (m : Int) (hs : s.size ≤ 1048576) (h : m < 0 ∨ (s.size : Int) ≤ m) (w : World) :
    Calls Try.prog 29 #[.string s, .int .i64 m] w fun e w' => e = .returned (.string s) ∧ w = w' := by
  by_cases h0 : m < 0
  · go_enter Try.func29, Try.ntmps29
    go_wp2_with fail
    go_ret
    exact ⟨rfl, rfl⟩
  · have h1 : (s.size : Int) ≤ m := by omega
    by_cases h2 : 1048576 < m
    · go_enter Try.func29, Try.ntmps29
      go_wp2_with fail
      go_ret
      exact ⟨rfl, rfl⟩
    · go_enter Try.func29, Try.ntmps29
      go_wp2_with fail
      go_ret
      exact ⟨rfl, rfl⟩

theorem fits_no (s : ByteArray) (m : Int) (hs : s.size ≤ 9223372036854775807) (h : 0 ≤ m ∧ m < (s.size : Int) ∨ 1048576 < s.size) (w : World) :
    Calls Try.prog 29 #[.string s, .int .i64 m] w fun e w' => e = .panicked [{ v := .iface 23 (.agg #[.int .u8 2, .int .i64 s.size]), recovered := false }] ∧ w = w' := by
  by_cases h0 : m < 0
  · have h1 : 1048576 < s.size := by omega
    clear h
    go_enter Try.func29, Try.ntmps29
    go_wp2_with (go_at_call 17; refine (throw_good _ _ (by decide) (by decide) _).mono ?_; rintro e w' ⟨rfl, rfl⟩)
    exact ⟨rfl, rfl, rfl⟩
  · by_cases h2 : 1048576 < m
    · have h1 : 1048576 < s.size := by omega
      clear h
      go_enter Try.func29, Try.ntmps29
      go_wp2_with (go_at_call 17; refine (throw_good _ _ (by decide) (by decide) _).mono ?_; rintro e w' ⟨rfl, rfl⟩)
      exact ⟨rfl, rfl, rfl⟩
    · have h1 : m < (s.size : Int) := by omega
      clear h
      go_enter Try.func29, Try.ntmps29
      go_wp2_with (go_at_call 17; refine (throw_good _ _ (by decide) (by decide) _).mono ?_; rintro e w' ⟨rfl, rfl⟩)
      exact ⟨rfl, rfl, rfl⟩
end Go.Proofs.Ytpjccbbemhjgbaa
