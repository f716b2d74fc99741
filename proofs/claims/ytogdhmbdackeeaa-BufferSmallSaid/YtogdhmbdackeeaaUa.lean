import Derived.Test.YtogdhmbdackeeaaX
import Derived.BigQuiet
namespace Go.Proofs.Ytogdhmbdackeeaa
open Go.RowKit
set_option linter.unusedVariables false

/-! ## Buffers that are none -/
def NB (w : World) (p : Value) : Prop := ∀ w', Below w.heap.size w w' → Calls Try.prog 29 #[p] w' fun e w'' => e = .returned (.bool true) ∧ w' = w''
theorem NB.next {w w' : World} {p : Value} (h : NB w p) (hb : Below w.heap.size w w') : NB w' p := fun w2 h2 => h w2 (bnext hb h2)
theorem nb_nil (w : World) : NB w (.pointer none) := fun w' _ => none_nil w'
theorem nb_zero {w : World} {b : Nat} {r : List Int} {f h a : Int} (H : BufAt w b r 0 f h a) : NB w (at0 b) := fun w' hb => none_zero (H.next hb)
set_option maxRecDepth 20000 in
theorem nb_size {w : World} {p : Value} (h : NB w p) : Calls Try.prog 21 #[p] w fun e w' => e = .returned (.int .i64 0) ∧ Below w.heap.size w w' := by
  have H := Lib.hid h
  clear h
  go_enter Try.func21, Try.ntmps21
  go_wp2_with (go_at_call 29; refine (H.out _ (by first | exact Below.refl _ _ | exact balloc (Below.refl _ _) _)).mono ?_; rintro e w1 ⟨rfl, rfl⟩)
  go_ret
  exact ⟨rfl, by first | exact Below.refl _ _ | exact balloc (Below.refl _ _) _⟩
set_option maxRecDepth 20000 in
theorem nb_full {w : World} {p : Value} (h : NB w p) : Calls Try.prog 14 #[p] w fun e w' => e = .returned (.bool false) ∧ Below w.heap.size w w' := by
  have H := Lib.hid h
  clear h
  go_enter Try.func14, Try.ntmps14
  go_wp2_with fail
  go_quiet ((go_at_call 29; exact Calls.quiet_of_same ((H.out _ (bdrewN (Below.refl _ _) _)).mono fun e w' h => ⟨h.1, h.2.symm⟩)))
  go_wp2_with fail
  go_ret
  exact ⟨rfl, bdrewN (Below.refl _ _) _⟩
set_option maxRecDepth 20000 in
theorem nb_part {w : World} {p : Value} (h : NB w p) : Calls Try.prog 18 #[p] w fun e w' => e = .returned (part 0 0) ∧ Below w.heap.size w w' := by
  have H := Lib.hid h
  clear h
  go_enter Try.func18, Try.ntmps18
  go_wp2_with (go_at_call 29; refine (H.out _ (by first | exact Below.refl _ _ | exact balloc (Below.refl _ _) _)).mono ?_; rintro e w1 ⟨rfl, rfl⟩)
  refine bodyPost_ret (v := part 0 0) (by simp [results, Try.results18, go_sem]) rfl ⟨rfl, ?_⟩
  (repeat' (first | with_reducible exact Below.refl _ _ | with_reducible refine bset ?_ ?_ _ | with_reducible refine balloc ?_ _)); all_goals omega
set_option maxRecDepth 20000 in
theorem nb_bytes {w : World} {p : Value} (h : NB w p) : Calls Try.prog 15 #[p] w fun e w' => e = .returned (.slice none 0 0) ∧ Below w.heap.size w w' := by
  have H := Lib.hid h
  clear h
  go_enter Try.func15, Try.ntmps15
  go_wp2_with (go_at_call 29; refine (H.out _ (by first | exact Below.refl _ _ | exact balloc (Below.refl _ _) _)).mono ?_; rintro e w1 ⟨rfl, rfl⟩)
  go_ret
  exact ⟨rfl, by first | exact Below.refl _ _ | exact balloc (Below.refl _ _) _⟩
set_option maxRecDepth 20000 in
theorem nb_take {w : World} {p : Value} (h : NB w p) : Calls Try.prog 13 #[p, .int .i64 0] w fun e w' => e = .returned (.tuple #[.slice none 0 0, part 0 0, .int .i64 1]) ∧ Below w.heap.size w w' := by
  have H := Lib.hid h
  clear h
  go_enter Try.func13, Try.ntmps13
  go_wp2_with (go_at_call 29; refine (H.out _ (by first | exact Below.refl _ _ | exact balloc (Below.refl _ _) _)).mono ?_; rintro e w1 ⟨rfl, rfl⟩)
  refine bodyPost_ret (v := .tuple #[.slice none 0 0, part 0 0, .int .i64 1]) (by simp [results, Try.results13, go_sem]) rfl ⟨rfl, ?_⟩
  (repeat' (first | with_reducible exact Below.refl _ _ | with_reducible refine bset ?_ ?_ _ | with_reducible refine balloc ?_ _)); all_goals omega
set_option maxRecDepth 20000 in
theorem nb_disc {w : World} {p : Value} (h : NB w p) : Calls Try.prog 16 #[p] w fun e w' => e = .returned (.tuple #[part 0 0, .int .i64 1]) ∧ Below w.heap.size w w' := by
  have H := Lib.hid h
  clear h
  go_enter Try.func16, Try.ntmps16
  go_wp2_with (go_at_call 29; refine (H.out _ (by first | exact Below.refl _ _ | exact balloc (Below.refl _ _) _)).mono ?_; rintro e w1 ⟨rfl, rfl⟩)
  refine bodyPost_ret (v := .tuple #[part 0 0, .int .i64 1]) (by simp [results, Try.results16, go_sem]) rfl ⟨rfl, ?_⟩
  (repeat' (first | with_reducible exact Below.refl _ _ | with_reducible refine bset ?_ ?_ _ | with_reducible refine balloc ?_ _)); all_goals omega
set_option maxRecDepth 20000 in
theorem nb_put {w : World} {p : Value} (h : NB w p) : Calls Try.prog 17 #[p, .int .u8 1] w fun e w' => e = .returned (.int .i64 1) ∧ Below w.heap.size w w' := by
  have H := Lib.hid h
  clear h
  go_enter Try.func17, Try.ntmps17
  go_wp2_with (go_at_call 29; refine (H.out _ (by first | exact Below.refl _ _ | exact balloc (Below.refl _ _) _)).mono ?_; rintro e w1 ⟨rfl, rfl⟩)
  go_ret
  exact ⟨rfl, by first | exact Below.refl _ _ | exact balloc (Below.refl _ _) _⟩
set_option maxRecDepth 20000 in
theorem nb_at {w : World} {p : Value} (h : NB w p) : Calls Try.prog 22 #[p, .int .i64 0] w fun e w' => e = .returned (.tuple #[.int .u8 0, .bool false]) ∧ Below w.heap.size w w' := by
  have H := Lib.hid h
  clear h
  go_enter Try.func22, Try.ntmps22
  go_wp2_with (go_at_call 29; refine (H.out _ (by first | exact Below.refl _ _ | exact balloc (Below.refl _ _) _)).mono ?_; rintro e w1 ⟨rfl, rfl⟩)
  go_ret2
  exact ⟨rfl, Below.refl _ _⟩
set_option maxRecDepth 20000 in
theorem nb_find {w : World} {p : Value} (h : NB w p) : Calls Try.prog 23 #[p, .slice none 0 0, .int .i64 0] w fun e w' => e = .returned (.int .i64 (-1)) ∧ Below w.heap.size w w' := by
  have H := Lib.hid h
  clear h
  go_enter Try.func23, Try.ntmps23
  go_wp2_with fail
  go_step3
  go_wp2_with (go_at_call 29; refine (H.out _ (by first | exact Below.refl _ _ | exact balloc (Below.refl _ _) _)).mono ?_; rintro e w1 ⟨rfl, rfl⟩)
  rw [Exit.noGoto_ret]
  go_ret
  exact ⟨rfl, balloc (Below.refl _ _) _⟩
set_option maxRecDepth 20000 in
theorem nb_copy {w : World} {p : Value} (h : NB w p) : Calls Try.prog 26 #[p] w fun e w' => e = .returned (.pointer none) ∧ Below w.heap.size w w' := by
  have H := Lib.hid h
  clear h
  go_enter Try.func26, Try.ntmps26
  go_wp2_with (go_at_call 29; refine (H.out _ (by first | exact Below.refl _ _ | exact balloc (Below.refl _ _) _)).mono ?_; rintro e w1 ⟨rfl, rfl⟩)
  go_ret
  exact ⟨rfl, by first | exact Below.refl _ _ | exact balloc (Below.refl _ _) _⟩
end Go.Proofs.Ytogdhmbdackeeaa
