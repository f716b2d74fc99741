import Derived.Test.YtpjccbbemhjgbaaH
namespace Go.Proofs.Ytpjccbbemhjgbaa
open Go.RowKit

/-- The world in which FaultInner calls 'outside'. -/
def W10 (w : World) (a b : Int) (odd : Bool) (p q : Int) : World :=
  (((((((((w.alloc (.cells #[.int .i64 a] 3)).alloc (.cells #[.int .i64 b] 3)).alloc (.cells #[.bool odd] 4)).alloc (.cells #[.int .u8 p] 5)).alloc (.cells #[.int .u8 q] 5)).alloc (.cells #[.int .u8 0, .int .i64 0] 23)).alloc (.cells #[.bool false] 4)).alloc (.cells #[.int .i64 0] 3)).alloc (.cells #[.int .u8 0, .int .i64 0] 23)).alloc (.cells #[.bool false] 4)

theorem nwk {w : World} {o : Obj} {k : Nat} (h : w.heap.size = k) : (w.alloc o).heap[k]? = some o := by subst h; exact nw

theorem W10_bx (w : World) (a b : Int) (odd : Bool) (p q : Int) : Bx w.heap.size a b odd p q 0 0 false 0 0 0 false (W10 w a b odd p q) := by
  unfold W10
  exact ⟨al (al (al (al (al (al (al (al (al nw)))))))), al (al (al (al (al (al (al (al (nwk (by simp))))))))), al (al (al (al (al (al (al (nwk (by simp)))))))), al (al (al (al (al (al (nwk (by simp))))))), al (al (al (al (al (nwk (by simp)))))), al (al (al (al (nwk (by simp))))),
    al (al (al (nwk (by simp)))), al (al (nwk (by simp))), al (nwk (by simp)), nwk (by simp)⟩

theorem W10_below (w : World) (a b : Int) (odd : Bool) (p q : Int) : Below w.heap.size w (W10 w a b odd p q) := by
  unfold W10
  exact balloc (balloc (balloc (balloc (balloc (balloc (balloc (balloc (balloc (balloc (Below.refl _ _) _) _) _) _) _) _) _) _) _) _

set_option maxHeartbeats 1000000 in
theorem inner_odd (x y a b : Int) (hx : 0 ≤ x) (hx2 : x ≤ 255) (hy : 0 ≤ y) (hy2 : y ≤ 255) (w : World) :
    Calls Try.prog 3 #[.int .u8 x, .int .u8 y, .int .i64 a, .int .i64 b, .bool true] w fun e w' => e = .returned (.bool true) ∧ Below w.heap.size w w' := by
  have hmf : ∀ (fn : Fn) (first cap : Array Value) (w : World), (Instr.makeFunc fn first cap).run Try.prog w = .ok (.func fn first cap) w := fun _ _ _ _ => rfl
  have hte := assert_error8
  obtain ⟨W, hW⟩ : ∃ W, W10 w a b true (x % 3) (y % 3) = W := ⟨_, rfl⟩
  have HX := Lib.hid (hW ▸ W10_bx w a b true (x % 3) (y % 3))
  have HB := Lib.hid (hW ▸ W10_below w a b true (x % 3) (y % 3))
  unfold W10 at hW
  have HW := Lib.hid hW
  clear hW
  go_enter Try.func3, Try.ntmps3
  go_wp2_with fail
  rw [HW.out]
  refine (o12_odd HX.out).mono ?_
  rintro e w1 ⟨⟨x, rfl⟩, h, hF⟩
  have HB1 := Lib.hid (HB.out.trans hF.low)
  obtain ⟨c0, f0⟩ := cell_one h.xodd
  obtain ⟨c1, f1⟩ := cell_one h.xst
  obtain ⟨c2, f2⟩ := cell_one h.xin
  obtain ⟨c3, f3⟩ := cell_one h.xout
  clear h hF HW HX HB
  dsimp only
  go_wp2_with (go_at_call 18; refine (awake_true _).mono ?_; rintro e w2 ⟨rfl, hb2⟩; (have HB2 := Lib.hid (bnext HB1.out hb2)); clear hb2)
  go_ret
  exact ⟨rfl, HB2.out⟩

set_option maxHeartbeats 1000000 in
theorem inner_00 (x y a b : Int) (hx : 0 ≤ x) (hx2 : x ≤ 255) (hy : 0 ≤ y) (hy2 : y ≤ 255) (hp : x % 3 = 0) (hq : y % 3 = 0) (w : World) :
    Calls Try.prog 3 #[.int .u8 x, .int .u8 y, .int .i64 a, .int .i64 b, .bool false] w fun e w' => e = .returned (.bool true) ∧ Below w.heap.size w w' := by
  have hmf : ∀ (fn : Fn) (first cap : Array Value) (w : World), (Instr.makeFunc fn first cap).run Try.prog w = .ok (.func fn first cap) w := fun _ _ _ _ => rfl
  have hte : ∀ w, (Instr.typeAssert .nilIface 20 31 true).run Try.prog w = .ok (.tuple #[.nilIface, .bool false]) w := fun _ => by kernel_rfl
  obtain ⟨W, hW⟩ : ∃ W, W10 w a b false (x % 3) (y % 3) = W := ⟨_, rfl⟩
  have HX := Lib.hid (hW ▸ W10_bx w a b false (x % 3) (y % 3))
  have HB := Lib.hid (hW ▸ W10_below w a b false (x % 3) (y % 3))
  have T := inner_all (by omega) (by omega) (by omega) (by omega) HX.out
  unfold W10 at hW
  have HW := Lib.hid hW; have HT := Lib.hid T
  have HP := Lib.hid hp; have HQ := Lib.hid hq
  clear hW T hp hq
  go_enter Try.func3, Try.ntmps3
  go_wp2_with fail
  rw [HW.out]
  refine HT.out.mono ?_
  rintro e w1 ⟨rfl, h0, hF⟩
  have hp := HP.out; have hq := HQ.out
  have h : Bx w.heap.size a b false (x % 3) (y % 3) 0 0 false 1111 0 0 false w1 := by
    simp only [hp, ↓reduceIte] at h0 ⊢
    simp only [hq, ↓reduceIte] at h0 ⊢
    exact h0
  have HB1 := Lib.hid (HB.out.trans hF.low)
  obtain ⟨c0, f0⟩ := cell_one h.xodd
  obtain ⟨c1, f1⟩ := cell_one h.xst
  obtain ⟨c2, f2⟩ := cell_one h.xin
  obtain ⟨c3, f3⟩ := cell_one h.xout
  obtain ⟨c4, f4⟩ := cell_one h.xp
  obtain ⟨c5, f5⟩ := cell_one h.xq
  obtain ⟨c6, c7, f6, f7⟩ := cell_two h.xi
  obtain ⟨c8, c9, f8, f9⟩ := cell_two h.xo
  obtain ⟨d0, g0⟩ := cell_one h.xa
  obtain ⟨d1, g1⟩ := cell_one h.xb
  clear h hF HW HX HB HT h0 HP HQ
  dsimp only
  go_wp2_with (go_at_call 18; refine (awake_true _).mono ?_; rintro e w2 ⟨rfl, hb2⟩; (have HB2 := Lib.hid (bnext HB1.out hb2)); clear hb2)
  go_ret
  exact ⟨rfl, HB2.out⟩

set_option maxHeartbeats 1000000 in
theorem inner_01 (x y a b : Int) (hx : 0 ≤ x) (hx2 : x ≤ 255) (hy : 0 ≤ y) (hy2 : y ≤ 255) (hp : x % 3 = 0) (hq : 0 < y % 3) (w : World) :
    Calls Try.prog 3 #[.int .u8 x, .int .u8 y, .int .i64 a, .int .i64 b, .bool false] w fun e w' => e = .returned (.bool true) ∧ Below w.heap.size w w' := by
  have hmf : ∀ (fn : Fn) (first cap : Array Value) (w : World), (Instr.makeFunc fn first cap).run Try.prog w = .ok (.func fn first cap) w := fun _ _ _ _ => rfl
  have hte : ∀ w, (Instr.typeAssert .nilIface 20 31 true).run Try.prog w = .ok (.tuple #[.nilIface, .bool false]) w := fun _ => by kernel_rfl
  obtain ⟨W, hW⟩ : ∃ W, W10 w a b false (x % 3) (y % 3) = W := ⟨_, rfl⟩
  have HX := Lib.hid (hW ▸ W10_bx w a b false (x % 3) (y % 3))
  have HB := Lib.hid (hW ▸ W10_below w a b false (x % 3) (y % 3))
  have T := inner_all (by omega) (by omega) (by omega) (by omega) HX.out
  unfold W10 at hW
  have HW := Lib.hid hW; have HT := Lib.hid T
  have HP := Lib.hid hp; have HQ := Lib.hid hq
  clear hW T hp hq
  go_enter Try.func3, Try.ntmps3
  go_wp2_with fail
  rw [HW.out]
  refine HT.out.mono ?_
  rintro e w1 ⟨rfl, h0, hF⟩
  have hp := HP.out; have hq := HQ.out
  have h : Bx w.heap.size a b false (x % 3) (y % 3) 0 0 false 111 (y % 3) b true w1 := by
    simp only [hp, ↓reduceIte] at h0 ⊢
    have e2 : ¬ y % 3 = 0 := by omega
    rw [show decide (y % 3 ≠ 0) = true from decide_eq_true e2] at h0
    simp only [e2, ↓reduceIte] at h0
    exact h0
  have HB1 := Lib.hid (HB.out.trans hF.low)
  obtain ⟨c0, f0⟩ := cell_one h.xodd
  obtain ⟨c1, f1⟩ := cell_one h.xst
  obtain ⟨c2, f2⟩ := cell_one h.xin
  obtain ⟨c3, f3⟩ := cell_one h.xout
  obtain ⟨c4, f4⟩ := cell_one h.xp
  obtain ⟨c5, f5⟩ := cell_one h.xq
  obtain ⟨c6, c7, f6, f7⟩ := cell_two h.xi
  obtain ⟨c8, c9, f8, f9⟩ := cell_two h.xo
  obtain ⟨d0, g0⟩ := cell_one h.xa
  obtain ⟨d1, g1⟩ := cell_one h.xb
  clear h hF HW HX HB HT h0 HP HQ
  dsimp only
  go_wp2_with (go_at_call 18; refine (awake_true _).mono ?_; rintro e w2 ⟨rfl, hb2⟩; (have HB2 := Lib.hid (bnext HB1.out hb2)); clear hb2)
  go_ret
  exact ⟨rfl, HB2.out⟩

set_option maxHeartbeats 1000000 in
theorem inner_10 (x y a b : Int) (hx : 0 ≤ x) (hx2 : x ≤ 255) (hy : 0 ≤ y) (hy2 : y ≤ 255) (hp : 0 < x % 3) (hq : y % 3 = 0) (w : World) :
    Calls Try.prog 3 #[.int .u8 x, .int .u8 y, .int .i64 a, .int .i64 b, .bool false] w fun e w' => e = .returned (.bool true) ∧ Below w.heap.size w w' := by
  have hmf : ∀ (fn : Fn) (first cap : Array Value) (w : World), (Instr.makeFunc fn first cap).run Try.prog w = .ok (.func fn first cap) w := fun _ _ _ _ => rfl
  have hte : ∀ w, (Instr.typeAssert .nilIface 20 31 true).run Try.prog w = .ok (.tuple #[.nilIface, .bool false]) w := fun _ => by kernel_rfl
  obtain ⟨W, hW⟩ : ∃ W, W10 w a b false (x % 3) (y % 3) = W := ⟨_, rfl⟩
  have HX := Lib.hid (hW ▸ W10_bx w a b false (x % 3) (y % 3))
  have HB := Lib.hid (hW ▸ W10_below w a b false (x % 3) (y % 3))
  have T := inner_all (by omega) (by omega) (by omega) (by omega) HX.out
  unfold W10 at hW
  have HW := Lib.hid hW; have HT := Lib.hid T
  have HP := Lib.hid hp; have HQ := Lib.hid hq
  clear hW T hp hq
  go_enter Try.func3, Try.ntmps3
  go_wp2_with fail
  rw [HW.out]
  refine HT.out.mono ?_
  rintro e w1 ⟨rfl, h0, hF⟩
  have hp := HP.out; have hq := HQ.out
  have h : Bx w.heap.size a b false (x % 3) (y % 3) (x % 3) a true 1101 0 0 false w1 := by
    have e1 : ¬ x % 3 = 0 := by omega
    rw [show decide (x % 3 ≠ 0) = true from decide_eq_true e1] at h0
    simp only [e1, ↓reduceIte] at h0
    simp only [hq, ↓reduceIte] at h0 ⊢
    exact h0
  have HB1 := Lib.hid (HB.out.trans hF.low)
  obtain ⟨c0, f0⟩ := cell_one h.xodd
  obtain ⟨c1, f1⟩ := cell_one h.xst
  obtain ⟨c2, f2⟩ := cell_one h.xin
  obtain ⟨c3, f3⟩ := cell_one h.xout
  obtain ⟨c4, f4⟩ := cell_one h.xp
  obtain ⟨c5, f5⟩ := cell_one h.xq
  obtain ⟨c6, c7, f6, f7⟩ := cell_two h.xi
  obtain ⟨c8, c9, f8, f9⟩ := cell_two h.xo
  obtain ⟨d0, g0⟩ := cell_one h.xa
  obtain ⟨d1, g1⟩ := cell_one h.xb
  clear h hF HW HX HB HT h0 HP HQ
  dsimp only
  go_wp2_with (go_at_call 18; refine (awake_true _).mono ?_; rintro e w2 ⟨rfl, hb2⟩; (have HB2 := Lib.hid (bnext HB1.out hb2)); clear hb2)
  go_ret
  exact ⟨rfl, HB2.out⟩

set_option maxHeartbeats 1000000 in
theorem inner_11 (x y a b : Int) (hx : 0 ≤ x) (hx2 : x ≤ 255) (hy : 0 ≤ y) (hy2 : y ≤ 255) (hp : 0 < x % 3) (hq : 0 < y % 3) (w : World) :
    Calls Try.prog 3 #[.int .u8 x, .int .u8 y, .int .i64 a, .int .i64 b, .bool false] w fun e w' => e = .returned (.bool true) ∧ Below w.heap.size w w' := by
  have hmf : ∀ (fn : Fn) (first cap : Array Value) (w : World), (Instr.makeFunc fn first cap).run Try.prog w = .ok (.func fn first cap) w := fun _ _ _ _ => rfl
  have hte : ∀ w, (Instr.typeAssert .nilIface 20 31 true).run Try.prog w = .ok (.tuple #[.nilIface, .bool false]) w := fun _ => by kernel_rfl
  obtain ⟨W, hW⟩ : ∃ W, W10 w a b false (x % 3) (y % 3) = W := ⟨_, rfl⟩
  have HX := Lib.hid (hW ▸ W10_bx w a b false (x % 3) (y % 3))
  have HB := Lib.hid (hW ▸ W10_below w a b false (x % 3) (y % 3))
  have T := inner_all (by omega) (by omega) (by omega) (by omega) HX.out
  unfold W10 at hW
  have HW := Lib.hid hW; have HT := Lib.hid T
  have HP := Lib.hid hp; have HQ := Lib.hid hq
  clear hW T hp hq
  go_enter Try.func3, Try.ntmps3
  go_wp2_with fail
  rw [HW.out]
  refine HT.out.mono ?_
  rintro e w1 ⟨rfl, h0, hF⟩
  have hp := HP.out; have hq := HQ.out
  have h : Bx w.heap.size a b false (x % 3) (y % 3) (x % 3) a true 101 (y % 3) b true w1 := by
    have e1 : ¬ x % 3 = 0 := by omega
    rw [show decide (x % 3 ≠ 0) = true from decide_eq_true e1] at h0
    simp only [e1, ↓reduceIte] at h0
    have e2 : ¬ y % 3 = 0 := by omega
    rw [show decide (y % 3 ≠ 0) = true from decide_eq_true e2] at h0
    simp only [e2, ↓reduceIte] at h0
    exact h0
  have HB1 := Lib.hid (HB.out.trans hF.low)
  obtain ⟨c0, f0⟩ := cell_one h.xodd
  obtain ⟨c1, f1⟩ := cell_one h.xst
  obtain ⟨c2, f2⟩ := cell_one h.xin
  obtain ⟨c3, f3⟩ := cell_one h.xout
  obtain ⟨c4, f4⟩ := cell_one h.xp
  obtain ⟨c5, f5⟩ := cell_one h.xq
  obtain ⟨c6, c7, f6, f7⟩ := cell_two h.xi
  obtain ⟨c8, c9, f8, f9⟩ := cell_two h.xo
  obtain ⟨d0, g0⟩ := cell_one h.xa
  obtain ⟨d1, g1⟩ := cell_one h.xb
  clear h hF HW HX HB HT h0 HP HQ
  dsimp only
  go_wp2_with (go_at_call 18; refine (awake_true _).mono ?_; rintro e w2 ⟨rfl, hb2⟩; (have HB2 := Lib.hid (bnext HB1.out hb2)); clear hb2)
  go_ret
  exact ⟨rfl, HB2.out⟩
end Go.Proofs.Ytpjccbbemhjgbaa
