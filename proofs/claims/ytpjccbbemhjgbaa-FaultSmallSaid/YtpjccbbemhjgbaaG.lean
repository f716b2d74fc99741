import Derived.Test.YtpjccbbemhjgbaaF
import Derived.Laws.EntriesVeiled
namespace Go.Proofs.Ytpjccbbemhjgbaa
open Go.RowKit

/-- All blocks but b are as they were. -/
structure But (b : Nat) (w w' : World) : Prop where
  os : w'.os = w.os
  tape : w'.tape = w.tape
  output : w'.output = w.output
  size : w'.heap.size = w.heap.size
  block : ∀ k, k ≠ b → w'.heap[k]? = w.heap[k]?

theorem But.refl (b : Nat) (w : World) : But b w w := ⟨rfl, rfl, rfl, rfl, fun _ _ => rfl⟩
theorem But.set {b : Nat} {w w' : World} (h : But b w w') (off : Nat) (v : Value) : But b w (w'.setCell ⟨b, off, none⟩ v) :=
  ⟨h.os, h.tape, h.output, by simpa using h.size, fun k hk => (heap_setCell_ne hk).trans (h.block k hk)⟩
theorem But.below {B b : Nat} {w w' : World} (h : But b w w') (hb : B ≤ b) : Below B w w' :=
  ⟨h.os, h.tape, h.output, Nat.le_of_eq h.size.symm, fun k hk => h.block k (by omega)⟩

theorem use_rel (b : Nat) (n f l u : Int) (w : World) (hm : meterAt w b f l u) (h1 : 1 ≤ n) (h2 : n ≤ l) (hl : l ≤ 1048576) (hu : 0 ≤ u) (hu2 : u ≤ 1000000000000) :
    Calls Try.prog 31 #[.pointer (some ⟨b, 0, none⟩), .int .i64 n] w fun e w' => e = .returned (.int .i64 0) ∧ meterAt w' b f (l - n) (u + n) ∧ But b w w' :=
  (use_ok b n f l u w hm h1 h2 hl hu hu2).mono fun e w' ⟨he, hw⟩ => ⟨he, by
    subst hw
    unfold meterAt
    rw [heap_setCell_at (heap_setCell_at hm)]; rfl, by subst hw; exact ((But.refl _ _).set _ _).set _ _⟩

theorem carry {w w' : World} {k : Nat} {o : Obj} (hb : Below w.heap.size w w') (h : w.heap[k]? = some o) : w'.heap[k]? = some o := (hb.block _ (lt_of_block h)).trans h
theorem al {w : World} {k : Nat} {o x : Obj} (h : w.heap[k]? = some o) : (w.alloc x).heap[k]? = some o := (heap_alloc_lt (lt_of_block h)).trans h
theorem nw {w : World} {o : Obj} : (w.alloc o).heap[w.heap.size]? = some o := (MapKept.heap_alloc _ _).1
theorem nw1 {w : World} {o x : Obj} : ((w.alloc x).alloc o).heap[w.heap.size + 1]? = some o := by have := @nw (w.alloc x) o; simpa using this
theorem nw2 {w : World} {o x y : Obj} : (((w.alloc x).alloc y).alloc o).heap[w.heap.size + 1 + 1]? = some o := by have := @nw ((w.alloc x).alloc y) o; simpa using this

theorem assert_error8 (v : Value) (w : World) : (Instr.typeAssert (.iface 8 v) 20 31 true).run Try.prog w = .ok (.tuple #[.iface 8 v, .bool true]) w := by kernel_rfl

set_option maxHeartbeats 1000000 in
theorem awake_true (w : World) : Calls Try.prog 18 #[] w fun e w' => e = .returned (.bool true) ∧ Below w.heap.size w w' := by
  have hmf : ∀ (fn : Fn) (first cap : Array Value) (w : World), (Instr.makeFunc fn first cap).run Try.prog w = .ok (.func fn first cap) w := fun _ _ _ _ => rfl
  have hta := assert_fault
  have hte := assert_error8
  have hne : ∀ (a b : Nat) (w : World), (binOp BinOp.eql 56 (.pointer (some ⟨a, b, none⟩)) (.pointer none)).run Try.prog w = .ok (.bool false) w := fun _ _ _ => by kernel_rfl
  obtain ⟨W, hW⟩ : ∃ W, (w.alloc (.cells #[.int .i64 5, .int .i64 5, .int .i64 0, .bool true] 58)).alloc (.cells #[.pointer (some ⟨w.heap.size, 0, none⟩)] 56) = W := ⟨_, rfl⟩
  have hS : W.heap.size = w.heap.size + 2 := by rw [← hW]; simp
  have hWB : Below w.heap.size w W := by rw [← hW]; exact ballo (ballo (Below.refl _ _) (Nat.le_refl _) _) (by simp <;> omega) _
  have hM : meterAt W w.heap.size 5 5 0 := by
    unfold meterAt
    rw [← hW, heap_alloc_lt (by simp <;> omega)]; exact (MapKept.heap_alloc _ _).1
  have hP : W.heap[w.heap.size + 1]? = some (.cells #[.pointer (some ⟨w.heap.size, 0, none⟩)] 56) := by
    rw [← hW]; have := (MapKept.heap_alloc (w.alloc (.cells #[.int .i64 5, .int .i64 5, .int .i64 0, .bool true] 58)) (.cells #[.pointer (some ⟨w.heap.size, 0, none⟩)] 56)).1; simpa using this
  have HW := Lib.hid hW; have HS := Lib.hid hS; have HM := Lib.hid hM; have HP := Lib.hid hP; have HB := Lib.hid hWB
  clear hW hS hM hP hWB
  go_enter Try.func18, Try.ntmps18
  go_wp2_with (first | (go_at_call 37; refine (newMeter_ok 5 (by decide) (by decide) _).mono ?_; rintro e w' ⟨rfl, rfl⟩))
  rw [HW.out]
  refine (use_rel _ 3 5 5 0 _ HM.out (by decide) (by decide) (by decide) (by decide) (by decide)).mono ?_
  rintro e w1 ⟨rfl, hm1, hk1⟩
  have HP1 := Lib.hid ((hk1.block _ (by omega)).trans HP.out)
  have HB1 := Lib.hid (HB.out.trans (hk1.below (Nat.le_refl _)))
  have HM1 := Lib.hid hm1; have HS1 := Lib.hid (hk1.size.trans HS.out)
  clear hm1 hk1 HW HS HM HP HB
  obtain ⟨c0, f0⟩ := cell_one HP1.out
  dsimp only
  go_wp2_with (first | (go_at_call 37; refine (newMeter_ok 5 (by decide) (by decide) _).mono ?_; rintro e w' ⟨rfl, rfl⟩))
  refine (use_rel _ 2 5 _ _ _ HM1.out (by decide) (by decide) (by decide) (by decide) (by decide)).mono ?_
  rintro e w2 ⟨rfl, hm1, hk1⟩
  have HP2 := Lib.hid ((hk1.block _ (by omega)).trans HP1.out)
  have HB2 := Lib.hid (HB1.out.trans (hk1.below (Nat.le_refl _)))
  have HM2 : Hid (meterAt w2 w.heap.size 5 0 5) := hm1
  have HS2 := Lib.hid (hk1.size.trans HS1.out)
  clear hm1 hk1 HS1 HM1 HP1 HB1 c0 f0
  obtain ⟨c0, f0⟩ := cell_one HP2.out
  dsimp only
  go_wp2_with (first | (go_at_call 33; refine (left_ok _ _ _ _ _ HM2.out).mono ?_; rintro e w' ⟨rfl, rfl⟩) | (go_at_call 34; refine (used_ok _ _ _ _ _ HM2.out).mono ?_; rintro e w' ⟨rfl, rfl⟩))
  refine (catch_thrown ent44 1 1 (by decide) (by decide) ?_).mono ?_
  · clear hmf hne hta hte
    intro w0 hb
    refine (f44_throws _ _ _ (carry hb HP2.out) (carry hb HM2.out)).mono ?_
    rintro e w1 ⟨rfl, rfl⟩
    exact ⟨⟨[], rfl, rfl⟩, Below.refl _ _⟩
  rintro e w3 ⟨rfl, hb3⟩
  have HP3 := Lib.hid (carry hb3 HP2.out)
  have HM3 := Lib.hid (carry hb3 HM2.out)
  have HB3 := Lib.hid (bnext HB2.out hb3)
  clear hb3 c0 f0 HP2 HM2 HB2 HS2
  dsimp only
  go_wp2_with fail
  refine (catch_thrown ent45 2 3 (by decide) (by decide) ?_).mono ?_
  · clear hmf hne hta hte
    intro w0 hb
    refine (f45_throws _).mono ?_
    rintro e w1 ⟨rfl, rfl⟩
    exact ⟨⟨[], rfl, rfl⟩, Below.refl _ _⟩
  rintro e w4 ⟨rfl, hb4⟩
  have HP4 := Lib.hid (carry hb4 (al HP3.out))
  have HM4 := Lib.hid (carry hb4 (al HM3.out))
  have HX4 := Lib.hid (carry hb4 nw)
  have HB4 := Lib.hid (bnext (balloc HB3.out _) hb4)
  clear hb4 HP3 HM3 HB3
  generalize w3.heap.size = N3 at *
  obtain ⟨c0, f0⟩ := cell_one HP4.out
  obtain ⟨c1, c2, f1, f2⟩ := cell_two HX4.out
  have l1 := lt_of_block HX4.out
  have ca := fun o off => cell_alloc_lt (o := o) (off := off) l1
  have fa := fun o off => frozen_alloc_lt (o := o) (off := off) l1
  dsimp only
  go_wp2_with (go_at_call 29; refine (fits_ok _ _ (by decide) (by decide) _).mono ?_; rintro e w' ⟨rfl, rfl⟩)
  refine (or_int ent46 ent47 1 (by decide) (by decide) (R := fun e w' => e = .returned (.tuple #[.int .i64 1, .int .i64 0]) ∧ Below (((w4.alloc (Obj.cells #[Value.int IntKind.u8 2, Value.int IntKind.i64 3] 23)).alloc (.cells #[.func (.func 46) #[] #[.pointer (some ⟨w.heap.size + 1, 0, none⟩)]] 48)).alloc (.cells #[.func (.func 47) #[] #[]] 49)).heap.size (((w4.alloc (Obj.cells #[Value.int IntKind.u8 2, Value.int IntKind.i64 3] 23)).alloc (.cells #[.func (.func 46) #[] #[.pointer (some ⟨w.heap.size + 1, 0, none⟩)]] 48)).alloc (.cells #[.func (.func 47) #[] #[]] 49)) w') ?_).mono ?_
  · clear hmf hne hta hte ca fa
    intro w0 hb
    refine (f46_throws _ _ _ (carry hb (al (al (al HP4.out)))) (carry hb (al (al (al HM4.out))))).mono ?_
    rintro e w1 ⟨rfl, rfl⟩
    refine ⟨⟨Nat.le_refl _, fun _ _ _ => rfl⟩, (fun v h => by cases h), .same 1 [] rfl fun w3 hb3 => ?_⟩
    refine (f47_much _ _ _).mono ?_
    rintro e w5 ⟨rfl, hb5⟩
    exact ⟨rfl, bnext (hb.trans hb3) hb5⟩
  rintro e w5 ⟨rfl, hb5⟩
  have HP5 := Lib.hid (carry hb5 (al (al (al HP4.out))))
  have HM5 := Lib.hid (carry hb5 (al (al (al HM4.out))))
  have HX5 := Lib.hid (carry hb5 (al (al (al HX4.out))))
  have HY5 := Lib.hid (carry hb5 (al (al nw)))
  have HQ5 := Lib.hid (carry hb5 (al nw1))
  have HR5 := Lib.hid (carry hb5 nw2)
  have HB5 := Lib.hid (bnext (balloc (balloc (balloc HB4.out _) _) _) hb5)
  clear hb5 HP4 HM4 HX4 HB4 c0 f0 c1 c2 f1 f2 l1 ca fa
  generalize w4.heap.size = N4 at *
  dsimp only
  go_wp2_with fail
  refine (outside_thrown ent48 23 (fun x => x = .agg #[.int .u8 1, .int .i64 1]) ?_).mono ?_
  · clear hmf hne hta hte
    intro w0 hb
    refine (f48_throws _ _ _ _ _ (carry hb HQ5.out) (carry hb HR5.out) (carry hb HP5.out) (carry hb HM5.out)).mono ?_
    rintro e w1 ⟨rfl, hb1⟩
    exact ⟨⟨_, [], rfl, rfl, rfl⟩, hb1⟩
  rintro e w6 ⟨⟨x, rfl, rfl⟩, hb6⟩
  have HX6 := Lib.hid (carry hb6 HX5.out)
  have HB6 := Lib.hid (bnext HB5.out hb6)
  clear hb6 HP5 HM5 HX5 HY5 HQ5 HR5 HB5
  dsimp only
  go_wp2_with fail
  refine (outside_thrown ent49 8 (fun _ => True) ?_).mono ?_
  · clear hmf hne hta hte
    intro w0 hb
    refine (f49_throws _).mono ?_
    rintro e w1 ⟨⟨x, rfl⟩, hb1⟩
    exact ⟨⟨x, [_], rfl, trivial, rfl⟩, hb1⟩
  rintro e w7 ⟨⟨x, -, rfl⟩, hb7⟩
  have HX7 := Lib.hid (carry hb7 (al HX6.out))
  have HY7 := Lib.hid (carry hb7 nw)
  have HB7 := Lib.hid (bnext (balloc HB6.out _) hb7)
  clear hb7 HX6 HB6
  generalize w6.heap.size = N6 at *
  obtain ⟨c0, c1, f0, f1⟩ := cell_two HX7.out
  obtain ⟨d0, d1, g0, g1⟩ := cell_two HY7.out
  dsimp only
  go_wp2_with fail
  go_ret
  exact ⟨rfl, HB7.out⟩
#print axioms awake_true
end Go.Proofs.Ytpjccbbemhjgbaa
