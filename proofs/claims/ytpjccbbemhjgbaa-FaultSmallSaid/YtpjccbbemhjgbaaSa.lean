import Derived.Test.YtpjccbbemhjgbaaZ
import Derived.Laws.BytesArg
import Derived.Lib.Bytes
import Derived.OwnWalk
namespace Go.Proofs.Ytpjccbbemhjgbaa
open Go.RowKit
set_option linter.unusedVariables false

set_option maxRecDepth 20000 in
theorem catch_nil (w : World) : Calls Try.prog 13 #[.nilFunc] w fun e w' => e = .returned (.tuple #[.agg #[.int .u8 0, .int .i64 0], .bool false, .int .i64 1]) ∧ Below w.heap.size w w' := by
  have hn : ∀ w : World, (binOp BinOp.eql 1 .nilFunc .nilFunc).run Try.prog w = .ok (.bool true) w := fun _ => by kernel_rfl
  go_enter Try.func13, Try.ntmps13
  go_wp2_with fail
  exact bodyPost_ret (v := .tuple #[.agg #[.int .u8 0, .int .i64 0], .bool false, .int .i64 1]) (by simp [results, Try.results13, go_sem]) rfl ⟨rfl, balloc (Below.refl _ _) _⟩
set_option maxRecDepth 20000 in
theorem try_nil (w : World) : Calls Try.prog 20 #[.nilFunc] w fun e w' => e = .returned (.tuple #[.string ⟨#[]⟩, .agg #[.int .u8 0, .int .i64 0], .bool false, .int .i64 1]) ∧ Below w.heap.size w w' := by
  have hn : ∀ w : World, (binOp BinOp.eql 35 .nilFunc .nilFunc).run Try.prog w = .ok (.bool true) w := fun _ => by kernel_rfl
  go_enter Try.func20, Try.ntmps20
  go_wp2_with fail
  refine bodyPost_ret (v := .tuple #[.string ⟨#[]⟩, .agg #[.int .u8 0, .int .i64 0], .bool false, .int .i64 1]) (by simp [results, Try.results20, go_sem]) rfl ⟨rfl, ?_⟩
  (repeat' (first | with_reducible exact Below.refl _ _ | with_reducible refine balloc ?_ _))
theorem or_kind (f g : Value) (k : Int) (hk : k < 1 ∨ 2 < k) (w : World) : Calls Try.prog 27 #[f, .int .u8 k, g] w fun e w' => e = .returned (.tuple #[.int .i64 0, .int .i64 350]) ∧ w = w' := by
  have hb : (decide (1 ≤ k) && decide (k ≤ 2)) = false := by simp; omega
  go_enter Try.func27, Try.ntmps27
  go_wp2_with (go_at_call 43; refine (there_any _ _).mono ?_; rintro e w' ⟨rfl, rfl⟩)
  go_ret2
  exact ⟨rfl, rfl⟩
theorem or_none1 (g : Value) (k : Int) (h1 : 1 ≤ k) (h2 : k ≤ 2) (w : World) : Calls Try.prog 27 #[.nilFunc, .int .u8 k, g] w fun e w' => e = .returned (.tuple #[.int .i64 0, .int .i64 1]) ∧ w = w' := by
  have hb : (decide (1 ≤ k) && decide (k ≤ 2)) = true := by simp; omega
  have hn : ∀ w : World, (binOp BinOp.eql 48 .nilFunc .nilFunc).run Try.prog w = .ok (.bool true) w := fun _ => by kernel_rfl
  go_enter Try.func27, Try.ntmps27
  go_wp2_with (go_at_call 43; refine (there_any _ _).mono ?_; rintro e w' ⟨rfl, rfl⟩)
  go_ret2
  exact ⟨rfl, rfl⟩
theorem or_none2 (g : FuncId) (cap : Array Value) (k : Int) (h1 : 1 ≤ k) (h2 : k ≤ 2) (w : World) : Calls Try.prog 27 #[.func (.func g) #[] cap, .int .u8 k, .nilFunc] w fun e w' => e = .returned (.tuple #[.int .i64 0, .int .i64 1]) ∧ w = w' := by
  have hb : (decide (1 ≤ k) && decide (k ≤ 2)) = true := by simp; omega
  have hn : ∀ w : World, (binOp BinOp.eql 48 (.func (.func g) #[] cap) .nilFunc).run Try.prog w = .ok (.bool false) w := fun _ => by kernel_rfl
  have hn2 : ∀ w : World, (binOp BinOp.eql 49 .nilFunc .nilFunc).run Try.prog w = .ok (.bool true) w := fun _ => by kernel_rfl
  go_enter Try.func27, Try.ntmps27
  go_wp2_with (go_at_call 43; refine (there_any _ _).mono ?_; rintro e w' ⟨rfl, rfl⟩)
  go_ret2
  exact ⟨rfl, rfl⟩
theorem ent25 : Ent 25 := fun _ _ => by kernel_rfl
theorem ent26 : Ent 26 := fun _ _ => by kernel_rfl
theorem ent28 : Ent 28 := fun _ _ => by kernel_rfl
theorem one_is (w : World) : Calls Try.prog 25 #[] w fun e w' => e = .returned (.int .i64 1) ∧ w = w' := by
  go_enter Try.func25, Try.ntmps25
  go_wp2_with fail
  go_ret
  exact ⟨rfl, rfl⟩
theorem or_one (w : World) : Calls Try.prog 27 #[.func (.func 25) #[] #[], .int .u8 2, .func (.func 26) #[] #[]] w fun e w' => e = .returned (.tuple #[.int .i64 1, .int .i64 0]) ∧ Below w.heap.size w w' := by
  refine or_int ent25 ent26 2 (by decide) (by decide) (fun w0 hb => (one_is w0).mono ?_)
  rintro e w1 ⟨rfl, rfl⟩
  exact ⟨⟨Nat.le_refl _, fun _ _ _ => rfl⟩, fun v hv => ⟨1, by cases hv; rfl⟩, .ret _ fun w3 h3 => ⟨rfl, hb.trans h3⟩⟩

/-! ### meters that are none -/
abbrev meter0 (w : World) (b : Nat) : Prop := w.heap[b]? = some (.cells #[.int .i64 0, .int .i64 0, .int .i64 0, .bool false] 58)
theorem fill_nil (w : World) : Calls Try.prog 32 #[.pointer none] w fun e w' => e = .returned (.int .i64 1) ∧ w = w' := by
  go_enter Try.func32, Try.ntmps32
  go_wp2_with (go_at_call 59; refine (is_nil _).mono ?_; rintro e w' ⟨rfl, rfl⟩)
  go_ret
  exact ⟨rfl, rfl⟩
theorem left_nil (w : World) : Calls Try.prog 33 #[.pointer none] w fun e w' => e = .returned (.int .i64 0) ∧ w = w' := by
  go_enter Try.func33, Try.ntmps33
  go_wp2_with (go_at_call 59; refine (is_nil _).mono ?_; rintro e w' ⟨rfl, rfl⟩)
  go_ret
  exact ⟨rfl, rfl⟩
theorem used_nil (w : World) : Calls Try.prog 34 #[.pointer none] w fun e w' => e = .returned (.int .i64 0) ∧ w = w' := by
  go_enter Try.func34, Try.ntmps34
  go_wp2_with (go_at_call 59; refine (is_nil _).mono ?_; rintro e w' ⟨rfl, rfl⟩)
  go_ret
  exact ⟨rfl, rfl⟩
theorem use_no (b : Nat) (n : Int) (w : World) (h : meter0 w b) : Calls Try.prog 31 #[.pointer (some ⟨b, 0, none⟩), .int .i64 n] w fun e w' => e = .returned (.int .i64 1) ∧ w = w' := by
  have H := Lib.hid h; clear h
  go_enter Try.func31, Try.ntmps31
  go_wp2_with (go_at_call 59; refine (is_no _ _ H.out).mono ?_; rintro e w' ⟨rfl, rfl⟩)
  go_ret
  exact ⟨rfl, rfl⟩
theorem fill_no (b : Nat) (w : World) (h : meter0 w b) : Calls Try.prog 32 #[.pointer (some ⟨b, 0, none⟩)] w fun e w' => e = .returned (.int .i64 1) ∧ w = w' := by
  have H := Lib.hid h; clear h
  go_enter Try.func32, Try.ntmps32
  go_wp2_with (go_at_call 59; refine (is_no _ _ H.out).mono ?_; rintro e w' ⟨rfl, rfl⟩)
  go_ret
  exact ⟨rfl, rfl⟩
theorem left_no (b : Nat) (w : World) (h : meter0 w b) : Calls Try.prog 33 #[.pointer (some ⟨b, 0, none⟩)] w fun e w' => e = .returned (.int .i64 0) ∧ w = w' := by
  have H := Lib.hid h; clear h
  go_enter Try.func33, Try.ntmps33
  go_wp2_with (go_at_call 59; refine (is_no _ _ H.out).mono ?_; rintro e w' ⟨rfl, rfl⟩)
  go_ret
  exact ⟨rfl, rfl⟩
theorem used_no (b : Nat) (w : World) (h : meter0 w b) : Calls Try.prog 34 #[.pointer (some ⟨b, 0, none⟩)] w fun e w' => e = .returned (.int .i64 0) ∧ w = w' := by
  have H := Lib.hid h; clear h
  go_enter Try.func34, Try.ntmps34
  go_wp2_with (go_at_call 59; refine (is_no _ _ H.out).mono ?_; rintro e w' ⟨rfl, rfl⟩)
  go_ret
  exact ⟨rfl, rfl⟩

/-! ### a string that is too long -/
theorem infoByte : (Try.prog.info? 5).map (fun i => (i.zero, i.size, i.bytes)) = some (some (.int .u8 0), 1, 1) := by kernel_rfl
set_option maxRecDepth 20000 in
theorem long_is (N : Nat) (hN : N = 1048577) (w : World) : Calls Try.prog 28 #[] w fun e w' => e = .panicked [{ v := .iface 23 (.agg #[.int .u8 2, .int .i64 N]), recovered := false }] ∧ Below w.heap.size w w' := by
  obtain ⟨i0, hi, hz0, hz1, hz2⟩ := info_parts infoByte
  obtain ⟨w1, hrun, hown, hg⟩ := run_make_full (P := Try.prog) w w.heap.size 53 5 i0 (.int .u8 0) 1 Try.underlying53 hi hz0 hz1 .i64 .i64 N (by rw [hz2]; omega) (by unfold maxLen; omega) (Nat.le_refl _)
  rw [show ((N : Nat) : Int) = 1048577 by rw [hN]; rfl] at hrun
  have hb : Below w.heap.size w w1 := (Below.refl _ _).grown hg (Nat.le_refl _) (fun k e => by cases e)
  have hcv := run_convert_bytes_arg (P := Try.prog) w1 53 5 Try.underlying53 Try.underlying5 w.heap.size 0 N N (List.replicate N 0) List.length_replicate (fun j hj => by
    have h := hown.cells (g := w.heap.size) rfl j (.int .u8 0) (by
      rw [show (Value.int IntKind.u8 0).cells = #[.int .u8 0] from rfl, toList_madeCells_one, Nat.mul_one, List.getElem?_replicate, if_pos hj])
    rw [add_plain, Nat.zero_add] at h
    rw [Nat.zero_add, h]
    simp [List.getD_eq_getElem?_getD, hj]) 9 Try.underlying9
  obtain ⟨s, hs⟩ : ∃ s, s = strOfNums (List.replicate N 0) := ⟨_, rfl⟩
  have hsz : s.size = N := by rw [hs, strOfNums_size, List.length_replicate]
  rw [← hs] at hcv
  have HS := Lib.hid hsz; have HN := Lib.hid hN; have HB := Lib.hid hb
  have HF := Lib.hid (show 0 ≤ (-1 : Int) ∧ (-1 : Int) < (s.size : Int) ∨ 1048576 < s.size by right; omega)
  have HL := Lib.hid (show s.size ≤ 9223372036854775807 by omega)
  clear hown hg hs hsz hN hb hi hz0 hz1 hz2
  go_enter Try.func28, Try.ntmps28
  go_wp2_with (go_at_call 29; refine (fits_no s (-1) HL.out HF.out _).mono ?_; rintro e w' ⟨rfl, rfl⟩)
  rw [HS.out]
  exact ⟨rfl, rfl, HB.out⟩
end Go.Proofs.Ytpjccbbemhjgbaa
