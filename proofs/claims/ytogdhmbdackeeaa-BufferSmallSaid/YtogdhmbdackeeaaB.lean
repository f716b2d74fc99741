import Derived.Test.YtogdhmbdackeeaaA
import Derived.Deep.RegionWith
namespace Go.Proofs.Ytogdhmbdackeeaa
open Go.RowKit
set_option linter.unusedVariables false

theorem bdrewN {B : Nat} {a w : World} (h : Below B a w) (n : Nat) : Below B a (w.drewN n) := ⟨h.os, h.tape, h.output, h.size, h.block⟩

abbrev at0 (n : Nat) : Value := .pointer (some ⟨n, 0, none⟩)

theorem none_no {w : World} {b : Nat} {r : List Int} {s f h a : Int} (H : BufAt w b r s f h a) (hs : 2 ≤ s) :
    Calls Try.prog 29 #[at0 b] w fun e w' => e = .returned (.bool false) ∧ w = w' := by
  obtain ⟨c0, c1, c2, c3⟩ := H.tail
  have hs0 : (s == 0) = false := by simpa using (by omega : ¬ s = 0)
  clear H
  go_enter Try.func29, Try.ntmps29
  go_wp2_with fail
  go_ret
  exact ⟨rfl, rfl⟩

theorem none_nil (w : World) :
    Calls Try.prog 29 #[.pointer none] w fun e w' => e = .returned (.bool true) ∧ w = w' := by
  go_enter Try.func29, Try.ntmps29
  go_wp2_with fail
  go_ret
  exact ⟨rfl, rfl⟩

theorem none_zero {w : World} {b : Nat} {r : List Int} {f h a : Int} (H : BufAt w b r 0 f h a) :
    Calls Try.prog 29 #[at0 b] w fun e w' => e = .returned (.bool true) ∧ w = w' := by
  obtain ⟨c0, c1, c2, c3⟩ := H.tail
  clear H
  go_enter Try.func29, Try.ntmps29
  go_wp2_with fail
  go_ret
  exact ⟨rfl, rfl⟩

theorem size_is {w : World} {b : Nat} {r : List Int} {s f h a : Int} (H : BufAt w b r s f h a) (hs : 2 ≤ s) :
    Calls Try.prog 21 #[at0 b] w fun e w' => e = .returned (.int .i64 s) ∧ w = w' := by
  obtain ⟨c0, c1, c2, c3⟩ := H.tail
  have HH := Lib.hid H
  clear H
  go_enter Try.func21, Try.ntmps21
  go_wp2_with (go_at_call 29; refine (none_no HH.out hs).mono ?_; rintro e w' ⟨rfl, rfl⟩)
  go_ret
  exact ⟨rfl, rfl⟩

theorem place_is {w : World} {b : Nat} {r : List Int} {s f h a i : Int} (H : BufAt w b r s f h a) (hs : 2 ≤ s) (hs2 : s ≤ 256) (hf : 0 ≤ f) (hf2 : f < s) (hi : 0 ≤ i) (hi2 : i ≤ 256) :
    Calls Try.prog 32 #[at0 b, .int .i64 i] w fun e w' => e = .returned (.int .i64 ((f + i) % s)) ∧ w' = w.drew := by
  obtain ⟨c0, c1, c2, c3⟩ := H.tail
  clear H
  go_enter Try.func32, Try.ntmps32
  go_wp2_with fail
  go_region
  go_wp2_with fail
  go_ret
  exact ⟨rfl, rfl⟩

theorem full_is {w : World} {b : Nat} {r : List Int} {s f h a : Int} (H : BufAt w b r s f h a) (hs : 2 ≤ s) :
    Calls Try.prog 14 #[at0 b] w fun e w' => e = .returned (.bool (h == s)) ∧ Below w.heap.size w w' := by
  obtain ⟨c0, c1, c2, c3⟩ := H.tail
  have HH := Lib.hid H
  clear H
  go_enter Try.func14, Try.ntmps14
  go_wp2_with fail
  go_quiet ((go_at_call 29; exact Calls.quiet_of_same ((none_no (w := w.drewN _) HH.out hs).mono fun e w' h => ⟨h.1, h.2.symm⟩)))
  go_wp2_with fail
  go_ret
  exact ⟨rfl, bdrewN (Below.refl _ _) _⟩

abbrev part (x y : Int) : Value := .agg #[.int .i64 x, .int .i64 y]

theorem part_is {w : World} {b : Nat} {r : List Int} {s f h a : Int} (H : BufAt w b r s f h a) (hs : 2 ≤ s) (hh : 0 ≤ h) (hh2 : h ≤ 256) (ha : 0 ≤ a) (ha2 : a ≤ 281474976710656) :
    Calls Try.prog 18 #[at0 b] w fun e w' => e = .returned (part a (a + h)) ∧ Below w.heap.size w w' := by
  obtain ⟨c0, c1, c2, c3⟩ := H.tail
  have HH := Lib.hid H
  have l0 := H.lt
  have ca := fun o off => cell_alloc_lt (o := o) (off := off) l0
  clear H
  go_enter Try.func18, Try.ntmps18
  go_wp2_with (go_at_call 29; refine (none_no (HH.out.alloc _) hs).mono ?_; rintro e w' ⟨rfl, rfl⟩)
  go_region
  go_wp2_with fail
  exact bodyPost_ret (v := part a (a + h)) (by simp [results, Try.results18, go_sem]) rfl ⟨rfl, (balloc (Below.refl _ _) _).drew⟩

theorem at_is {w : World} {b : Nat} {r : List Int} {s f h a i : Int} (H : BufAt w b r s f h a) (hs : 2 ≤ s) (hs2 : s ≤ 256) (hf : 0 ≤ f) (hf2 : f < s) (hh : h ≤ s) (hi : 0 ≤ i) (hi2 : i < h) :
    Calls Try.prog 22 #[at0 b, .int .i64 i] w fun e w' => e = .returned (.tuple #[.int .u8 (rd r ((f + i) % s).toNat), .bool true]) ∧ Below w.heap.size w w' := by
  obtain ⟨c0, c1, c2, c3⟩ := H.tail
  have HH := Lib.hid H
  have hb0 : 0 ≤ (f + i) % s := Int.emod_nonneg _ (by omega)
  have hb1 : (f + i) % s < 256 := Int.lt_of_lt_of_le (Int.emod_lt_of_pos _ (by omega)) hs2
  have hcell := H.ring (i := ((f + i) % s).toNat) (by omega)
  clear H
  go_enter Try.func22, Try.ntmps22
  go_wp2_with (go_at_call 29; refine (none_no HH.out hs).mono ?_; rintro e w' ⟨rfl, rfl⟩)
  go_quiet ((go_at_call 32; exact Calls.quiet_of ((place_is (w := w.drewN _) HH.out hs hs2 hf hf2 hi (by omega)).mono fun e w' h => ⟨h.1, 1, h.2⟩)))
  go_wp2_with fail
  go_ret2
  exact ⟨rfl, bdrewN (Below.refl _ _) _⟩

theorem at_no {w : World} {b : Nat} {r : List Int} {s f h a i : Int} (H : BufAt w b r s f h a) (hs : 2 ≤ s) (hi : i < 0 ∨ h ≤ i) :
    Calls Try.prog 22 #[at0 b, .int .i64 i] w fun e w' => e = .returned (.tuple #[.int .u8 0, .bool false]) ∧ w = w' := by
  obtain ⟨c0, c1, c2, c3⟩ := H.tail
  have HH := Lib.hid H
  clear H
  rcases hi with hi | hi
  · go_enter Try.func22, Try.ntmps22
    go_wp2_with (go_at_call 29; refine (none_no HH.out hs).mono ?_; rintro e w' ⟨rfl, rfl⟩)
    go_ret2
    exact ⟨rfl, rfl⟩
  · by_cases h0 : i < 0
    · go_enter Try.func22, Try.ntmps22
      go_wp2_with (go_at_call 29; refine (none_no HH.out hs).mono ?_; rintro e w' ⟨rfl, rfl⟩)
      go_ret2
      exact ⟨rfl, rfl⟩
    · go_enter Try.func22, Try.ntmps22
      go_wp2_with (go_at_call 29; refine (none_no HH.out hs).mono ?_; rintro e w' ⟨rfl, rfl⟩)
      go_ret2
      exact ⟨rfl, rfl⟩

/-! ### New -/
theorem run_build_buf (s a : Int) (w : World) : (Instr.build 61 #[(1, .int .i64 s), (4, .int .i64 a)]).run Try.prog w = .ok (.agg (bufCells (List.replicate 256 0) s 0 0 a)) w := by kernel_rfl
theorem run_box_buf (C : Array Value) (w : World) : (Instr.box 61 (.agg C)).run Try.prog w = .ok (.pointer (some ⟨w.heap.size, 0, none⟩)) (w.alloc (.cells C 61)) := by
  simp [Instr.box, newVar, go_sem]
theorem wpList_build_buf {ops : Array Oper} {Q : Exit → Act → World → Prop} {A : Act} {w : World} {rest : List Oper} {o : Oper} (x y : Operand) (s a : Int) (hg : o.guard = none) (ho : o.op = .build 61 #[(1, x), (4, y)])
    (hx : A.eval x = .int .i64 s) (hy : A.eval y = .int .i64 a) (h : wpList Try.prog ops Q rest (A.put o.dst (.agg (bufCells (List.replicate 256 0) s 0 0 a))) w) : wpList Try.prog ops Q (o :: rest) A w := by
  refine wpList_plain hg fun K hK => ?_
  unfold Oper.wp execOp
  simp only [ho, Sem.run_bind]
  have := run_build_buf s a w
  simp only [List.map_toArray, List.map_cons, List.map_nil, hx, hy, this, Result.andThen_ok]
  exact hK _ _ h

set_option maxRecDepth 100000 in
theorem new_ok (s a : Int) (h1 : 2 ≤ s) (h2 : s ≤ 256) (h3 : 0 ≤ a) (h4 : a ≤ 281474976710656) (w : World) :
    Calls Try.prog 11 #[.int .i64 s, .int .i64 a] w fun e w' => e = .returned (.tuple #[at0 w.heap.size, .int .i64 0]) ∧ BufAt w' w.heap.size (List.replicate 256 0) s 0 0 a ∧ Below w.heap.size w w' := by
  go_enter Try.func11, Try.ntmps11
  go_wp2_with (refine wpList_build_buf _ _ _ _ (by rfl) (by rfl) (by rfl) (by rfl) ?_)
  go_ret2
  exact ⟨rfl, ⟨by simp, nw⟩, balloc (Below.refl _ _) _⟩

theorem new_bad (s a : Int) (h : s < 2 ∨ 256 < s ∨ a < 0 ∨ 281474976710656 < a) (w : World) :
    Calls Try.prog 11 #[.int .i64 s, .int .i64 a] w fun e w' => e = .returned (.tuple #[.pointer none, .int .i64 2]) ∧ w = w' := by
  by_cases h1 : s < 2
  · go_enter Try.func11, Try.ntmps11
    go_wp2_with fail
    go_ret2
    exact ⟨rfl, rfl⟩
  · by_cases h2 : 256 < s
    · go_enter Try.func11, Try.ntmps11
      go_wp2_with fail
      go_ret2
      exact ⟨rfl, rfl⟩
    · by_cases h3 : a < 0
      · go_enter Try.func11, Try.ntmps11
        go_wp2_with fail
        go_ret2
        exact ⟨rfl, rfl⟩
      · have h4 : 281474976710656 < a := by omega
        clear h
        go_enter Try.func11, Try.ntmps11
        go_wp2_with fail
        go_ret2
        exact ⟨rfl, rfl⟩

/-! ### Put -/
theorem put_full {w : World} {b : Nat} {r : List Int} {s f a c : Int} (H : BufAt w b r s f s a) (hs : 2 ≤ s) :
    Calls Try.prog 17 #[at0 b, .int .u8 c] w fun e w' => e = .returned (.int .i64 4) ∧ Below w.heap.size w w' := by
  have HH := Lib.hid H
  have hn : (s == s) = true := by simp
  clear H
  go_enter Try.func17, Try.ntmps17
  go_wp2_with (first | (go_at_call 29; refine (none_no HH.out hs).mono ?_; rintro e w' ⟨rfl, rfl⟩) | (go_at_call 14; refine (full_is HH.out hs).mono ?_; rintro e w1 ⟨rfl, hb⟩; have HB := Lib.hid hb; clear hb))
  go_ret
  exact ⟨rfl, HB.out⟩

theorem put_long {w : World} {b : Nat} {r : List Int} {s f h a c : Int} (H : BufAt w b r s f h a) (hs : 2 ≤ s) (hne : h ≠ s) (hl : a + h = 281474976710656) (ha : 0 ≤ a) (hh : 0 ≤ h) :
    Calls Try.prog 17 #[at0 b, .int .u8 c] w fun e w' => e = .returned (.int .i64 3) ∧ Below w.heap.size w w' := by
  have HH := Lib.hid H
  have hn : (h == s) = false := by simpa using hne
  have HL := Lib.hid hl
  have hl2 : IntKind.i64.wrap (a + h) = 281474976710656 := by rw [hl]; rfl
  have hb1 : a + h ≤ 281474976710656 := by omega
  clear H hl hne
  go_enter Try.func17, Try.ntmps17
  go_wp2_with (first | (go_at_call 29; refine (none_no HH.out hs).mono ?_; rintro e w' ⟨rfl, rfl⟩) | (go_at_call 14; refine (full_is HH.out hs).mono ?_; rintro e w1 ⟨rfl, hb⟩; have HB := Lib.hid hb; (obtain ⟨c0, c1, c2, c3⟩ := (HH.out.next hb).tail); clear hb))
  go_quiet (fail)
  go_wp2_with fail
  go_ret
  exact ⟨rfl, bdrewN HB.out _⟩

theorem put_ok {w : World} {b : Nat} {r : List Int} {s f h a c : Int} (H : BufAt w b r s f h a) (hs : 2 ≤ s) (hs2 : s ≤ 256) (hf : 0 ≤ f) (hf2 : f < s) (hh : 0 ≤ h) (hlt : h < s) (ha : 0 ≤ a) (hl : a + h < 281474976710656) :
    Calls Try.prog 17 #[at0 b, .int .u8 c] w fun e w' => e = .returned (.int .i64 0) ∧ BufAt w' b (r.set ((f + h) % s).toNat c) s f (h + 1) a ∧ Rg b (b + 1) w w' := by
  have HH := Lib.hid H
  have hn : (h == s) = false := by simpa using (by omega : ¬ h = s)
  have hl2 : (a + h == 281474976710656) = false := by simpa using (by omega : ¬ a + h = 281474976710656)
  have hl3 : ¬ a + h = 281474976710656 := by omega
  have hb0 : 0 ≤ (f + h) % s := Int.emod_nonneg _ (by omega)
  have hb1 : (f + h) % s < 256 := Int.lt_of_lt_of_le (Int.emod_lt_of_pos _ (by omega)) hs2
  clear H
  go_enter Try.func17, Try.ntmps17
  go_wp2_with (first | (go_at_call 29; refine (none_no HH.out hs).mono ?_; rintro e w' ⟨rfl, rfl⟩) | (go_at_call 14; refine (full_is HH.out hs).mono ?_; rintro e w1 ⟨rfl, hb⟩; have HB := Lib.hid hb; (have H1 := Lib.hid (HH.out.next hb)); (obtain ⟨c0, c1, c2, c3⟩ := (HH.out.next hb).tail); clear hb))
  go_quiet (fail)
  go_wp2_with fail
  have hring := H1.out.ring (i := ((f + h) % s).toNat) (by omega)
  have hfr := H1.out.free ((f + h) % s).toNat
  have hfr2 := H1.out.free 258
  go_region_with ((go_at_call 32; refine (place_is (w := w1.drewN _) H1.out hs hs2 hf hf2 hh (by omega)).mono ?_; rintro e w' ⟨rfl, rfl⟩))
  have c2' : ∀ n x, ((w1.drewN n).setCell ⟨b, ((f + h) % s).toNat, none⟩ (.int .u8 x)).cell? ⟨b, 258, none⟩ = some (.int .i64 h) := fun n x =>
    (BufAt.set_ring (w := w1.drewN n) H1.out _ (by omega) x).tail.2.2.1
  go_wp2_with fail
  go_ret
  refine ⟨rfl, (BufAt.set_ring (w := w1.drewN _) H1.out _ (by omega) c).set_held _, ?_⟩
  exact (((Rg.refl _ _ _).next (bdrewN HB.out _) (by have := HH.out.lt; omega)).set (Nat.le_refl _) (by omega) _).set (Nat.le_refl _) (by omega) _
end Go.Proofs.Ytogdhmbdackeeaa
