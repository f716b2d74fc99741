import Derived.Test.YtpjccbbemhjgbaaK
namespace Go.Proofs.Ytpjccbbemhjgbaa
open Go.RowKit
set_option linter.unusedVariables false

def W5 (w : World) (s : ByteArray) (m p k : Int) : World :=
  ((((w.alloc (.cells #[.string s] 9)).alloc (.cells #[.int .i64 m] 3)).alloc (.cells #[.int .u8 p] 5)).alloc (.cells #[.int .u8 k] 5)).alloc
    (.cells #[.func (.func 19) #[] #[.pointer (some ⟨w.heap.size + 1 + 1, 0, none⟩), .pointer (some ⟨w.heap.size + 1, 0, none⟩), .pointer (some ⟨w.heap.size, 0, none⟩)]] 35)
theorem W5_tb (w : World) (s : ByteArray) (m p k : Int) : Tb w.heap.size s m p k (W5 w s m p k) := by
  unfold W5
  exact ⟨al (al (al (al nw))), al (al (al (nwk' (by simp)))), al (al (nwk' (by simp))), al (nwk' (by simp)), nwk' (by simp)⟩
theorem W5_below (w : World) (s : ByteArray) (m p k : Int) : Below w.heap.size w (W5 w s m p k) := by
  unfold W5
  exact balloc (balloc (balloc (balloc (balloc (Below.refl _ _) _) _) _) _) _
def W9 (w : World) (k m : Int) : World := (((w.alloc (.cells #[.int .u8 k, .int .i64 m] 23)).alloc (.cells #[.string empty] 9)).alloc (.cells #[.int .u8 0, .int .i64 0] 23)).alloc (.cells #[.int .i64 0] 25)
theorem W9_tc (w : World) (k m : Int) : Tc (w.heap.size + 1) empty 0 0 (W9 w k m) := by
  unfold W9
  exact ⟨al (al (nwk' (by simp))), al (nwk' (by simp)), nwk' (by simp)⟩
theorem W9_x (w : World) (k m : Int) : (W9 w k m).heap[w.heap.size]? = some (.cells #[.int .u8 k, .int .i64 m] 23) := by
  unfold W9
  exact al (al (al nw))
theorem W9_below (w : World) (k m : Int) : Below w.heap.size w (W9 w k m) := by
  unfold W9
  exact balloc (balloc (balloc (balloc (Below.refl _ _) _) _) _) _
theorem W9_size (w : World) (k m : Int) : (W9 w k m).heap.size = w.heap.size + 4 := by simp [W9]

theorem try19_ret {N : Nat} {s : ByteArray} {m k : Int} {w : World} (h : Tb N s m 0 k w) :
    Calls Try.prog 20 #[.func (.func 19) #[] (caps19 N)] w fun e w' => e = .returned (.tuple #[.string s, .agg #[.int .u8 0, .int .i64 0], .bool false, .int .i64 0]) ∧ Below w.heap.size w w' :=
  try_string ent19 fun w0 hb => (f19_ret _ _ _ s m w0 (h.next hb).xp (h.next hb).xm (h.next hb).xs).mono (by
    rintro e w1 ⟨rfl, rfl⟩
    exact ⟨babove (Below.refl _ _), fun v hv => ⟨s, by cases hv; rfl⟩, _, .ret _, fun w2 hb2 => ⟨rfl, hb.trans hb2⟩⟩)
theorem try19_throws {N : Nat} {s : ByteArray} {m p k : Int} (hp : 1 ≤ p) (hp2 : p ≤ 2) {w : World} (h : Tb N s m p k w) :
    Calls Try.prog 20 #[.func (.func 19) #[] (caps19 N)] w fun e w' => e = .returned (.tuple #[.string ⟨#[]⟩, .agg #[.int .u8 p, .int .i64 m], .bool true, .int .i64 0]) ∧ Below w.heap.size w w' :=
  try_string ent19 fun w0 hb => (f19_throws _ _ _ s p m hp hp2 w0 (h.next hb).xp (h.next hb).xm (h.next hb).xs).mono (by
    rintro e w1 ⟨rfl, rfl⟩
    exact ⟨babove (Below.refl _ _), fun v hv => (by cases hv), _, .fault _ _ [] hp hp2 rfl, fun w2 hb2 => ⟨rfl, hb.trans hb2⟩⟩)

set_option maxHeartbeats 2000000 in
theorem ftry_ret (s : ByteArray) (x y m : Int) (hs : s.size ≤ 140737488355327) (hx : 0 ≤ x) (hx2 : x ≤ 255) (hy : 0 ≤ y) (hy2 : y ≤ 255) (hp : x % 3 = 0) (w : World) :
    Calls Try.prog 4 #[.string s, .int .u8 x, .int .u8 y, .int .i64 m] w fun e w' => e = .returned (.bool true) ∧ Below w.heap.size w w' := by
  have hmf : ∀ (fn : Fn) (first cap : Array Value) (w : World), (Instr.makeFunc fn first cap).run Try.prog w = .ok (.func fn first cap) w := fun _ _ _ _ => rfl
  obtain ⟨W, hW⟩ : ∃ W, W5 w s m 0 (1 + y % 2) = W := ⟨_, rfl⟩
  have HX0 : Tb w.heap.size s m 0 (1 + y % 2) W := hW ▸ W5_tb w s m 0 (1 + y % 2)
  have HX := Lib.hid HX0
  have HB := Lib.hid (hW ▸ W5_below w s m 0 (1 + y % 2))
  unfold W5 at hW
  have HW := Lib.hid hW
  have hk1 : 1 ≤ 1 + y % 2 := by omega
  have hk2 : 1 + y % 2 ≤ 2 := by omega
  clear hW HX0
  go_enter Try.func4, Try.ntmps4
  go_wp2_with fail
  rw [HW.out]
  refine (try19_ret HX.out).mono ?_
  rintro e w1 ⟨rfl, hb1⟩
  have HX1 := Lib.hid (HX.out.next hb1)
  have HB1 := Lib.hid (bnext HB.out hb1)
  have lt : w.heap.size + 4 < w1.heap.size := lt_of_block HX1.out.xf
  clear HW HX HB hb1
  obtain ⟨c0, f0⟩ := cell_one HX1.out.xs
  obtain ⟨c1, f1⟩ := cell_one HX1.out.xm
  obtain ⟨c2, f2⟩ := cell_one HX1.out.xp
  obtain ⟨c3, f3⟩ := cell_one HX1.out.xk
  obtain ⟨c4, f4⟩ := cell_one HX1.out.xf
  have l0 : w.heap.size < w1.heap.size := by omega
  have l1 : w.heap.size + 1 < w1.heap.size := by omega
  have l2 : w.heap.size + 2 < w1.heap.size := by omega
  have l3 : w.heap.size + 3 < w1.heap.size := by omega
  have a0 := fun o off => cell_alloc_lt (o := o) (off := off) l0
  have a1 := fun o off => cell_alloc_lt (o := o) (off := off) l1
  have a2 := fun o off => cell_alloc_lt (o := o) (off := off) l2
  have a3 := fun o off => cell_alloc_lt (o := o) (off := off) l3
  dsimp only
  go_wp2_with fail
  have hW9 : W9 w1 0 0 = W9 w1 0 0 := rfl
  have h9s := W9_size w1 0 0
  have HT9 := Lib.hid (W9_tc w1 0 0)
  have HX9 := Lib.hid (HX1.out.next (W9_below w1 0 0))
  have HB9 := Lib.hid (bnext HB1.out (W9_below w1 0 0))
  have HY9 := Lib.hid (W9_x w1 0 0)
  conv at hW9 => lhs; unfold W9
  rw [hW9]
  clear hW9 a0 a1 a2 a3 c0 c1 c2 c3 c4 f0 f1 f2 f3 f4 l0 l1 l2 l3 HX1 HB1
  generalize W9 w1 0 0 = w9 at *
  generalize w1.heap.size = M at *
  have hm9 : M + 1 + 2 < w9.heap.size := by omega
  refine (c21_ret hm9 fun w0 hb => f21_ret (by omega) (HX9.out.next hb) (HT9.out.next hb) (or_ret (by omega) hk1 hk2 (HX9.out.next hb) (HT9.out.next hb))).mono ?_
  rintro e w2 ⟨rfl, hc, hr⟩
  have hx := HX9.out.keep (by omega) hr
  have hy := hr.keep (.inl (by omega)) HY9.out
  have HB2 := Lib.hid (HB9.out.trans (hr.low.mono (by omega)))
  obtain ⟨c0, f0⟩ := cell_one hx.xs
  obtain ⟨c2, f2⟩ := cell_one hx.xp
  obtain ⟨c3, f3⟩ := cell_one hx.xk
  obtain ⟨d0, g0⟩ := cell_one hc.xg
  obtain ⟨d1, d2, g1, g2⟩ := cell_two hc.xs
  obtain ⟨d3, g3⟩ := cell_one hc.xh
  obtain ⟨d4, d5, g4, g5⟩ := cell_two hy
  have hlt := lt_of_block hc.xh
  have l0 : w.heap.size < w2.heap.size := by omega
  have l2 : w.heap.size + 2 < w2.heap.size := by omega
  have l3 : w.heap.size + 3 < w2.heap.size := by omega
  have l4 : M < w2.heap.size := by omega
  have l5 : M + 1 < w2.heap.size := by omega
  have l6 : M + 2 < w2.heap.size := by omega
  have l7 : M + 3 < w2.heap.size := by omega
  have a0 := fun o off => cell_alloc_lt (o := o) (off := off) l0
  have a2 := fun o off => cell_alloc_lt (o := o) (off := off) l2
  have a3 := fun o off => cell_alloc_lt (o := o) (off := off) l3
  have a4 := fun o off => cell_alloc_lt (o := o) (off := off) l4
  have a5 := fun o off => cell_alloc_lt (o := o) (off := off) l5
  have a6 := fun o off => cell_alloc_lt (o := o) (off := off) l6
  have a7 := fun o off => cell_alloc_lt (o := o) (off := off) l7
  clear hc hr hx hy HX9 HB9 HT9 HY9 h9s hm9
  dsimp only
  go_wp2_with fail
  refine (awake_true _).mono ?_
  rintro e w3 ⟨rfl, hb3⟩
  have HB3 := Lib.hid (bnext (balloc HB2.out _) hb3)
  clear hb3
  dsimp only
  go_wp2_with fail
  go_ret
  exact ⟨rfl, HB3.out⟩

set_option maxHeartbeats 2000000 in
theorem ftry_same (s : ByteArray) (x y m : Int) (hs : s.size ≤ 140737488355327) (hx : 0 ≤ x) (hx2 : x ≤ 255) (hy : 0 ≤ y) (hy2 : y ≤ 255) (hp : x % 3 = 1 + y % 2) (w : World) :
    Calls Try.prog 4 #[.string s, .int .u8 x, .int .u8 y, .int .i64 m] w fun e w' => e = .returned (.bool true) ∧ Below w.heap.size w w' := by
  have hmf : ∀ (fn : Fn) (first cap : Array Value) (w : World), (Instr.makeFunc fn first cap).run Try.prog w = .ok (.func fn first cap) w := fun _ _ _ _ => rfl
  obtain ⟨W, hW⟩ : ∃ W, W5 w s m (x % 3) (1 + y % 2) = W := ⟨_, rfl⟩
  have HX0 : Tb w.heap.size s m (x % 3) (1 + y % 2) W := hW ▸ W5_tb w s m (x % 3) (1 + y % 2)
  have HX := Lib.hid HX0
  have HB := Lib.hid (hW ▸ W5_below w s m (x % 3) (1 + y % 2))
  unfold W5 at hW
  have HW := Lib.hid hW
  have hk1 : 1 ≤ 1 + y % 2 := by omega
  have hk2 : 1 + y % 2 ≤ 2 := by omega
  have hp1 : 1 ≤ x % 3 := by omega
  have hp2 : x % 3 ≤ 2 := by omega
  have hp0 : 0 < x % 3 := by omega
  have HP := Lib.hid hp
  clear hp
  clear hW HX0
  go_enter Try.func4, Try.ntmps4
  go_wp2_with fail
  rw [HW.out]
  refine (try19_throws hp1 hp2 HX.out).mono ?_
  rintro e w1 ⟨rfl, hb1⟩
  have HX1 := Lib.hid (HX.out.next hb1)
  have HB1 := Lib.hid (bnext HB.out hb1)
  have lt : w.heap.size + 4 < w1.heap.size := lt_of_block HX1.out.xf
  clear HW HX HB hb1
  obtain ⟨c0, f0⟩ := cell_one HX1.out.xs
  obtain ⟨c1, f1⟩ := cell_one HX1.out.xm
  obtain ⟨c2, f2⟩ := cell_one HX1.out.xp
  obtain ⟨c3, f3⟩ := cell_one HX1.out.xk
  obtain ⟨c4, f4⟩ := cell_one HX1.out.xf
  have l0 : w.heap.size < w1.heap.size := by omega
  have l1 : w.heap.size + 1 < w1.heap.size := by omega
  have l2 : w.heap.size + 2 < w1.heap.size := by omega
  have l3 : w.heap.size + 3 < w1.heap.size := by omega
  have a0 := fun o off => cell_alloc_lt (o := o) (off := off) l0
  have a1 := fun o off => cell_alloc_lt (o := o) (off := off) l1
  have a2 := fun o off => cell_alloc_lt (o := o) (off := off) l2
  have a3 := fun o off => cell_alloc_lt (o := o) (off := off) l3
  dsimp only
  go_wp2_with fail
  have hW9 : W9 w1 (x % 3) m = W9 w1 (x % 3) m := rfl
  have h9s := W9_size w1 (x % 3) m
  have HT9 := Lib.hid (W9_tc w1 (x % 3) m)
  have HX9 := Lib.hid (HX1.out.next (W9_below w1 (x % 3) m))
  have HB9 := Lib.hid (bnext HB1.out (W9_below w1 (x % 3) m))
  have HY9 := Lib.hid (W9_x w1 (x % 3) m)
  conv at hW9 => lhs; unfold W9
  rw [hW9]
  clear hW9 a0 a1 a2 a3 c0 c1 c2 c3 c4 f0 f1 f2 f3 f4 l0 l1 l2 l3 HX1 HB1
  generalize W9 w1 (x % 3) m = w9 at *
  generalize w1.heap.size = M at *
  have hm9 : M + 1 + 2 < w9.heap.size := by omega
  refine (c21_ret hm9 fun w0 hb => f21_ret (a := 1 + y % 2) (by omega) (HX9.out.next hb) (HT9.out.next hb) (or_same (by omega) hs hk1 hk2 (HP.out ▸ HX9.out.next hb) (HT9.out.next hb))).mono ?_
  rintro e w2 ⟨rfl, hc, hr⟩
  have hx := HX9.out.keep (by omega) hr
  have hy := hr.keep (.inl (by omega)) HY9.out
  have HB2 := Lib.hid (HB9.out.trans (hr.low.mono (by omega)))
  obtain ⟨c0, f0⟩ := cell_one hx.xs
  obtain ⟨c2, f2⟩ := cell_one hx.xp
  obtain ⟨c3, f3⟩ := cell_one hx.xk
  rw [← HP.out] at hc
  have hb1 : (x % 3 == 1 + y % 2) = true := by simpa using HP.out
  have hb2 : (x % 3 != 1 + y % 2) = false := by simpa using HP.out
  obtain ⟨d0, g0⟩ := cell_one hc.xg
  obtain ⟨d1, d2, g1, g2⟩ := cell_two hc.xs
  obtain ⟨d3, g3⟩ := cell_one hc.xh
  obtain ⟨d4, d5, g4, g5⟩ := cell_two hy
  have hlt := lt_of_block hc.xh
  have l0 : w.heap.size < w2.heap.size := by omega
  have l2 : w.heap.size + 2 < w2.heap.size := by omega
  have l3 : w.heap.size + 3 < w2.heap.size := by omega
  have l4 : M < w2.heap.size := by omega
  have l5 : M + 1 < w2.heap.size := by omega
  have l6 : M + 2 < w2.heap.size := by omega
  have l7 : M + 3 < w2.heap.size := by omega
  have a0 := fun o off => cell_alloc_lt (o := o) (off := off) l0
  have a2 := fun o off => cell_alloc_lt (o := o) (off := off) l2
  have a3 := fun o off => cell_alloc_lt (o := o) (off := off) l3
  have a4 := fun o off => cell_alloc_lt (o := o) (off := off) l4
  have a5 := fun o off => cell_alloc_lt (o := o) (off := off) l5
  have a6 := fun o off => cell_alloc_lt (o := o) (off := off) l6
  have a7 := fun o off => cell_alloc_lt (o := o) (off := off) l7
  clear hc hr hx hy HX9 HB9 HT9 HY9 h9s hm9
  dsimp only
  go_wp2_with fail
  refine (awake_true _).mono ?_
  rintro e w3 ⟨rfl, hb3⟩
  have HB3 := Lib.hid (bnext (balloc HB2.out _) hb3)
  clear hb3
  dsimp only
  go_wp2_with fail
  go_ret
  exact ⟨rfl, HB3.out⟩

set_option maxHeartbeats 2000000 in
theorem ftry_diff (s : ByteArray) (x y m : Int) (hs : s.size ≤ 140737488355327) (hx : 0 ≤ x) (hx2 : x ≤ 255) (hy : 0 ≤ y) (hy2 : y ≤ 255) (hp : x % 3 ≠ 1 + y % 2) (hp0 : 0 < x % 3) (w : World) :
    Calls Try.prog 4 #[.string s, .int .u8 x, .int .u8 y, .int .i64 m] w fun e w' => e = .returned (.bool true) ∧ Below w.heap.size w w' := by
  have hmf : ∀ (fn : Fn) (first cap : Array Value) (w : World), (Instr.makeFunc fn first cap).run Try.prog w = .ok (.func fn first cap) w := fun _ _ _ _ => rfl
  obtain ⟨W, hW⟩ : ∃ W, W5 w s m (x % 3) (1 + y % 2) = W := ⟨_, rfl⟩
  have HX0 : Tb w.heap.size s m (x % 3) (1 + y % 2) W := hW ▸ W5_tb w s m (x % 3) (1 + y % 2)
  have HX := Lib.hid HX0
  have HB := Lib.hid (hW ▸ W5_below w s m (x % 3) (1 + y % 2))
  unfold W5 at hW
  have HW := Lib.hid hW
  have hk1 : 1 ≤ 1 + y % 2 := by omega
  have hk2 : 1 + y % 2 ≤ 2 := by omega
  have hp1 : 1 ≤ x % 3 := by omega
  have hp2 : x % 3 ≤ 2 := by omega
  have HP := Lib.hid hp
  clear hp
  clear hW HX0
  go_enter Try.func4, Try.ntmps4
  go_wp2_with fail
  rw [HW.out]
  refine (try19_throws hp1 hp2 HX.out).mono ?_
  rintro e w1 ⟨rfl, hb1⟩
  have HX1 := Lib.hid (HX.out.next hb1)
  have HB1 := Lib.hid (bnext HB.out hb1)
  have lt : w.heap.size + 4 < w1.heap.size := lt_of_block HX1.out.xf
  clear HW HX HB hb1
  obtain ⟨c0, f0⟩ := cell_one HX1.out.xs
  obtain ⟨c1, f1⟩ := cell_one HX1.out.xm
  obtain ⟨c2, f2⟩ := cell_one HX1.out.xp
  obtain ⟨c3, f3⟩ := cell_one HX1.out.xk
  obtain ⟨c4, f4⟩ := cell_one HX1.out.xf
  have l0 : w.heap.size < w1.heap.size := by omega
  have l1 : w.heap.size + 1 < w1.heap.size := by omega
  have l2 : w.heap.size + 2 < w1.heap.size := by omega
  have l3 : w.heap.size + 3 < w1.heap.size := by omega
  have a0 := fun o off => cell_alloc_lt (o := o) (off := off) l0
  have a1 := fun o off => cell_alloc_lt (o := o) (off := off) l1
  have a2 := fun o off => cell_alloc_lt (o := o) (off := off) l2
  have a3 := fun o off => cell_alloc_lt (o := o) (off := off) l3
  dsimp only
  go_wp2_with fail
  have hW9 : W9 w1 (x % 3) m = W9 w1 (x % 3) m := rfl
  have h9s := W9_size w1 (x % 3) m
  have HT9 := Lib.hid (W9_tc w1 (x % 3) m)
  have HX9 := Lib.hid (HX1.out.next (W9_below w1 (x % 3) m))
  have HB9 := Lib.hid (bnext HB1.out (W9_below w1 (x % 3) m))
  have HY9 := Lib.hid (W9_x w1 (x % 3) m)
  conv at hW9 => lhs; unfold W9
  rw [hW9]
  clear hW9 a0 a1 a2 a3 c0 c1 c2 c3 c4 f0 f1 f2 f3 f4 l0 l1 l2 l3 HX1 HB1
  generalize W9 w1 (x % 3) m = w9 at *
  generalize w1.heap.size = M at *
  have hm9 : M + 1 + 2 < w9.heap.size := by omega
  refine (c21_fault hp1 hp2 hm9 fun w0 hb => f21_throws (by omega) (HX9.out.next hb) (HT9.out.next hb) (or_diff (by omega) hk1 hk2 hp1 hp2 HP.out (HX9.out.next hb) (HT9.out.next hb))).mono ?_
  rintro e w2 ⟨rfl, hc, hr⟩
  have hx := HX9.out.keep (by omega) hr
  have hy := hr.keep (.inl (by omega)) HY9.out
  have HB2 := Lib.hid (HB9.out.trans (hr.low.mono (by omega)))
  obtain ⟨c0, f0⟩ := cell_one hx.xs
  obtain ⟨c2, f2⟩ := cell_one hx.xp
  obtain ⟨c3, f3⟩ := cell_one hx.xk
  have hb1 : (x % 3 == 1 + y % 2) = false := by simpa using HP.out
  have hb2 : (x % 3 != 1 + y % 2) = true := by simpa using HP.out
  obtain ⟨d0, g0⟩ := cell_one hc.xg
  obtain ⟨d1, d2, g1, g2⟩ := cell_two hc.xs
  obtain ⟨d3, g3⟩ := cell_one hc.xh
  obtain ⟨d4, d5, g4, g5⟩ := cell_two hy
  have hlt := lt_of_block hc.xh
  have l0 : w.heap.size < w2.heap.size := by omega
  have l2 : w.heap.size + 2 < w2.heap.size := by omega
  have l3 : w.heap.size + 3 < w2.heap.size := by omega
  have l4 : M < w2.heap.size := by omega
  have l5 : M + 1 < w2.heap.size := by omega
  have l6 : M + 2 < w2.heap.size := by omega
  have l7 : M + 3 < w2.heap.size := by omega
  have a0 := fun o off => cell_alloc_lt (o := o) (off := off) l0
  have a2 := fun o off => cell_alloc_lt (o := o) (off := off) l2
  have a3 := fun o off => cell_alloc_lt (o := o) (off := off) l3
  have a4 := fun o off => cell_alloc_lt (o := o) (off := off) l4
  have a5 := fun o off => cell_alloc_lt (o := o) (off := off) l5
  have a6 := fun o off => cell_alloc_lt (o := o) (off := off) l6
  have a7 := fun o off => cell_alloc_lt (o := o) (off := off) l7
  clear hc hr hx hy HX9 HB9 HT9 HY9 h9s hm9
  dsimp only
  go_wp2_with fail
  refine (awake_true _).mono ?_
  rintro e w3 ⟨rfl, hb3⟩
  have HB3 := Lib.hid (bnext (balloc HB2.out _) hb3)
  clear hb3
  dsimp only
  go_wp2_with fail
  go_ret
  exact ⟨rfl, HB3.out⟩
end Go.Proofs.Ytpjccbbemhjgbaa
