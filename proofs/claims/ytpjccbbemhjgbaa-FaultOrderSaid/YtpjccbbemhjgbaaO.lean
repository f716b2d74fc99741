import Derived.Test.YtpjccbbemhjgbaaM
import Derived.BigQuiet
import Derived.Deep.RegionHeld3
import Derived.Deep.DeepCutAuto
namespace Go.Proofs.Ytpjccbbemhjgbaa
open Go.RowKit
set_option linter.unusedVariables false

/-- The worlds in which nothing that was in w has turned. -/
def Since (w : World) : Type := { w' : World // Below w.heap.size w w' }

instance instSince (w : World) : Nonempty (Since w) := ⟨⟨w, Below.refl _ _⟩⟩

theorem wp_region_since {P : Program} {id : Nat} {Q : Exit → Act → World → Prop} {a : Act} {w : World} {l : List Oper} (hm : P.follows .mixedOrders = true) (hB : Region.lexB .any l.toArray = true)
    (h : wpQuiet P l.toArray (fun w' => ∃ d : Since w, w' = d.val) (fun a' => ∀ w', (∃ d : Since w, w' = d.val) → Q .normal a' w') l a) : (Code.region id l.toArray true).wp P Q a w :=
  wp_region_quiet (C := fun w' => ∃ d : Since w, w' = d.val) hm hB ⟨⟨w.drew, (Below.refl _ _).drew⟩, rfl⟩ (by simpa using h)

theorem Calls.since_of {P : Program} {f : FuncId} {args : Array Value} {w : World} {d : Since w} {v : Value}
    (h : Calls P f args d.val fun e w' => e = .returned v ∧ Below d.val.heap.size d.val w') : Calls P f args d.val fun e w'' => e = .returned v ∧ ∃ d' : Since w, w'' = d'.val :=
  h.mono fun _ w' ⟨he, hb⟩ => ⟨he, ⟨w', d.property.trans (hb.mono d.property.size)⟩, rfl⟩

theorem since_two {w : World} {b : Nat} {u v : Value} {t : TypeId} (h : w.heap[b]? = some (.cells #[u, v] t (0, 0))) : (∀ d : Since w, d.val.cell? ⟨b, 0, none⟩ = some u) ∧ (∀ d : Since w, d.val.cell? ⟨b, 1, none⟩ = some v) :=
  ⟨fun d => (cell_two (carry d.property h)).1, fun d => (cell_two (carry d.property h)).2.1⟩

theorem bcellw {W w1 : World} (hb : Below W.heap.size W w1) : (∀ b o, b < W.heap.size → w1.cell? ⟨b, o, none⟩ = W.cell? ⟨b, o, none⟩) ∧ (∀ b o, b < W.heap.size → w1.frozen? ⟨b, o, none⟩ = W.frozen? ⟨b, o, none⟩) :=
  ⟨fun b o h => hb.cell (p := ⟨b, o, none⟩) h, fun b o h => hb.frozen (p := ⟨b, o, none⟩) h⟩

abbrev WorseIs (k m l n x y : Int) : Prop := ∀ w, Calls Try.prog 36 #[flt k m, flt l n] w fun e w' => e = .returned (flt x y) ∧ Below w.heap.size w w'

set_option maxRecDepth 100000 in
set_option maxHeartbeats 4000000 in
theorem order_1 (a0 b0 a1 b1 a2 b2 yk ym pk pm : Int) (hab : WorseIs a0 b0 a1 b1 a0 b0) (hbc : WorseIs a1 b1 a2 b2 yk ym) (hba : WorseIs a1 b1 a0 b0 a0 b0) (hxc : WorseIs a0 b0 a2 b2 pk pm) (hay : WorseIs a0 b0 yk ym pk pm) (haa : WorseIs a0 b0 a0 b0 a0 b0)
    (h : a0 < a1) (w : World) :
    Calls Try.prog 8 #[flt a0 b0, flt a1 b1, flt a2 b2] w fun e w' => e = .returned (.bool true) ∧ Below w.heap.size w w' := by
  have h1 : (a0 == a1) = false := by simpa using (by omega : ¬ a0 = a1)
  have h2 : (a0 != a1) = true := by simpa using (by omega : ¬ a0 = a1)
  have H1 := Lib.hid hab; have H2 := Lib.hid hbc; have H3 := Lib.hid hba; have H4 := Lib.hid hxc; have H5 := Lib.hid hay; have H6 := Lib.hid haa
  clear hab hbc hba hxc hay haa
  go_enter Try.func8, Try.ntmps8
  go_upto_region 1 with fail
  obtain ⟨W, hW⟩ : ∃ W, ((w.alloc (.cells #[.int .u8 a0, .int .i64 b0] 23)).alloc (.cells #[.int .u8 a1, .int .i64 b1] 23)).alloc (.cells #[.int .u8 a2, .int .i64 b2] 23) = W := ⟨_, rfl⟩
  have hx0 : W.heap[w.heap.size]? = some (.cells #[.int .u8 a0, .int .i64 b0] 23) := by rw [← hW]; exact al (al nw)
  have hx1 : W.heap[w.heap.size + 1]? = some (.cells #[.int .u8 a1, .int .i64 b1] 23) := by rw [← hW]; exact al nw1
  have hx2 : W.heap[w.heap.size + 1 + 1]? = some (.cells #[.int .u8 a2, .int .i64 b2] 23) := by rw [← hW]; exact nw2
  have hb0 : Below w.heap.size w W := by rw [← hW]; exact balloc (balloc (balloc (Below.refl _ _) _) _) _
  have HW := Lib.hid hW
  have HX0 := Lib.hid hx0; have HX1 := Lib.hid hx1; have HX2 := Lib.hid hx2; have HB0 := Lib.hid hb0
  rw [hW]
  clear hW hb0 hx0 hx1 hx2
  go_cut [7, 8] (fun s7 s8 wx => ∃ g h : Nat, s7 = .pointer (some ⟨g, 0, none⟩) ∧ s8 = .pointer (some ⟨h, 0, none⟩) ∧ wx.cell? ⟨g, 0, none⟩ = some (.int .u8 a0) ∧ wx.cell? ⟨g, 1, none⟩ = some (.int .i64 b0) ∧ wx.cell? ⟨h, 0, none⟩ = some (.int .u8 yk) ∧ wx.cell? ⟨h, 1, none⟩ = some (.int .i64 ym) ∧ Below W.heap.size W wx)
  case first =>
    obtain ⟨c0, c1, f0, f1⟩ := cell_two HX0.out
    obtain ⟨c2, c3, f2, f3⟩ := cell_two HX1.out
    obtain ⟨c4, c5, f4, f5⟩ := cell_two HX2.out
    have sOf : ∀ {w' : World}, Below W.heap.size W w' → w'.cell? ⟨w.heap.size, 0, none⟩ = some (.int .u8 a0) ∧ w'.cell? ⟨w.heap.size, 1, none⟩ = some (.int .i64 b0) ∧ w'.cell? ⟨w.heap.size + 1, 0, none⟩ = some (.int .u8 a1) ∧ w'.cell? ⟨w.heap.size + 1, 1, none⟩ = some (.int .i64 b1) ∧
        w'.cell? ⟨w.heap.size + 1 + 1, 0, none⟩ = some (.int .u8 a2) ∧ w'.cell? ⟨w.heap.size + 1 + 1, 1, none⟩ = some (.int .i64 b2) ∧ Below W.heap.size W w' ∧ W.heap.size ≤ w'.heap.size := fun hb => by
      have e0 := cell_two (carry hb HX0.out); have e1 := cell_two (carry hb HX1.out); have e2 := cell_two (carry hb HX2.out)
      exact ⟨e0.1, e0.2.1, e1.1, e1.2.1, e2.1, e2.2.1, hb, hb.size⟩
    have hg0 : ∀ (v : World) (o : Obj) (b off : Nat), b < v.heap.size → (v.alloc o).cell? ⟨b, off, none⟩ = v.cell? ⟨b, off, none⟩ := fun v o b off h => cell_alloc_lt h
    have hg1 : ∀ (v : World) (o : Obj) (b off : Nat), b < v.heap.size → (v.alloc o).frozen? ⟨b, off, none⟩ = v.frozen? ⟨b, off, none⟩ := fun v o b off h => frozen_alloc_lt h
    have l0 := lt_of_block HX0.out
    have l1 := lt_of_block HX1.out
    have l2 := lt_of_block HX2.out
    go_region_held3 (fun w' => w'.cell? ⟨w.heap.size, 0, none⟩ = some (.int .u8 a0) ∧ w'.cell? ⟨w.heap.size, 1, none⟩ = some (.int .i64 b0) ∧ w'.cell? ⟨w.heap.size + 1, 0, none⟩ = some (.int .u8 a1) ∧ w'.cell? ⟨w.heap.size + 1, 1, none⟩ = some (.int .i64 b1) ∧
        w'.cell? ⟨w.heap.size + 1 + 1, 0, none⟩ = some (.int .u8 a2) ∧ w'.cell? ⟨w.heap.size + 1 + 1, 1, none⟩ = some (.int .i64 b2) ∧ Below W.heap.size W w' ∧ W.heap.size ≤ w'.heap.size) (first
        | (refine sOf (w' := _) ?_; (repeat' (first | with_reducible assumption | with_reducible exact Below.refl _ _ | with_reducible refine balloc ?_ _ | with_reducible refine bset ?_ ?_ _ | with_reducible refine Below.drew ?_)); all_goals omega)
)
      (first
        | (go_at_call_of 36 (Value.agg #[Value.int IntKind.u8 a0, Value.int IntKind.i64 b0]); refine (H1.out _).mono ?_; rintro e w1 ⟨rfl, hb1⟩; (have hB1 : Below W.heap.size W w1 := (by refine bnext (w := _) ?_ hb1; (repeat' (first | with_reducible assumption | with_reducible exact Below.refl _ _ | with_reducible refine balloc ?_ _ | with_reducible refine Below.drew ?_)))); (obtain ⟨hc1, hf1⟩ := bcellw hb1); (have hs1 := hB1.size); (have hz1 := hb1.size); (try rw [World.size_drew] at hz1); (try rw [World.size_alloc] at hz1); (try rw [World.size_alloc] at hz1); (try rw [World.size_drew] at hz1); (try have l11 : W.heap.size < w1.heap.size := by omega); (try have l12 : W.heap.size < w1.heap.size + 1 := by omega); (try have l13 : W.heap.size + 1 < w1.heap.size := by omega); (try have l14 : W.heap.size + 1 < w1.heap.size + 1 := by omega); clear hb1)
        | (go_at_call_of 36 (Value.agg #[Value.int IntKind.u8 a2, Value.int IntKind.i64 b2]); refine (H2.out _).mono ?_; rintro e w2 ⟨rfl, hb2⟩; (have hB2 : Below W.heap.size W w2 := (by refine bnext (w := _) ?_ hb2; (repeat' (first | with_reducible assumption | with_reducible exact Below.refl _ _ | with_reducible refine balloc ?_ _ | with_reducible refine Below.drew ?_)))); (obtain ⟨hc2, hf2⟩ := bcellw hb2); (have hs2 := hB2.size); (have hz2 := hb2.size); (try rw [World.size_drew] at hz2); (try rw [World.size_alloc] at hz2); (try rw [World.size_alloc] at hz2); (try rw [World.size_drew] at hz2); (try have l21 : W.heap.size < w2.heap.size := by omega); (try have l22 : W.heap.size < w2.heap.size + 1 := by omega); (try have l23 : W.heap.size + 1 < w2.heap.size := by omega); (try have l24 : W.heap.size + 1 < w2.heap.size + 1 := by omega); (try have l25 : w1.heap.size < w2.heap.size := by omega); (try have l26 : w1.heap.size < w2.heap.size + 1 := by omega); (try have l27 : w1.heap.size + 1 < w2.heap.size := by omega); (try have l28 : w1.heap.size + 1 < w2.heap.size + 1 := by omega); clear hb2))
    all_goals
      go_wp2_with fail
      go_meet
      refine ⟨_, _, rfl, rfl, ?_, ?_, ?_, ?_, ?_⟩
      rotate_left 4
      · (repeat' (first | with_reducible assumption | with_reducible exact Below.refl _ _ | with_reducible refine balloc ?_ _ | with_reducible refine bset ?_ ?_ _ | with_reducible refine Below.drew ?_)); all_goals omega
      all_goals first
        | (go_simp; done)
        | (go_simp; refine World.cell?_setCell_same _ _ _ (u := .int .u8 0) ?_; go_simp; done)
        | (go_simp; refine World.cell?_setCell_same _ _ _ (u := .int .i64 0) ?_; go_simp; done)
  case rest =>
    obtain ⟨g, h, rfl, rfl, hg0, hg1, hh0, hh1, hb⟩ := hcut
    have k0 := carry hb HX0.out; have k1 := carry hb HX1.out; have k2 := carry hb HX2.out
    have HB := Lib.hid (HB0.out.trans (hb.mono HB0.out.size))
    obtain ⟨c0, c1⟩ := since_two k0
    obtain ⟨c2, c3⟩ := since_two k1
    obtain ⟨c4, c5⟩ := since_two k2
    have c6 := fun d : Since wc => (d.property.cell (p := ⟨g, 0, none⟩) (World.block_lt_of_cell? _ _ hg0)).trans hg0
    have c7 := fun d : Since wc => (d.property.cell (p := ⟨g, 1, none⟩) (World.block_lt_of_cell? _ _ hg1)).trans hg1
    have c8 := fun d : Since wc => (d.property.cell (p := ⟨h, 0, none⟩) (World.block_lt_of_cell? _ _ hh0)).trans hh0
    have c9 := fun d : Since wc => (d.property.cell (p := ⟨h, 1, none⟩) (World.block_lt_of_cell? _ _ hh1)).trans hh1
    clear hb k0 k1 k2 hg0 hg1 hh0 hh1
    go_wp2_with fail
    refine wp_region_since (by kernel_rfl) (by kernel_rfl) ?_
    repeat (go_big_quiet_step (first | with_reducible exact Calls.since_of (H3.out _) | with_reducible exact Calls.since_of (H4.out _) | with_reducible exact Calls.since_of (H5.out _) | with_reducible exact Calls.since_of (H6.out _) | with_reducible exact Calls.since_of (awake_true _)))
    refine wpQuiet_nil ?_
    rintro w' ⟨d, rfl⟩
    have HD := Lib.hid (bnext HB.out d.property)
    clear c0 c1 c2 c3 c4 c5 c6 c7 c8 c9
    go_wp2_with fail
    go_ret
    exact ⟨rfl, HD.out⟩

set_option maxRecDepth 100000 in
set_option maxHeartbeats 4000000 in
theorem order_2 (a0 b0 b1 a2 b2 yk ym pk pm : Int) (hab : WorseIs a0 b0 a0 b1 a0 b0) (hbc : WorseIs a0 b1 a2 b2 yk ym) (hba : WorseIs a0 b1 a0 b0 a0 b0) (hxc : WorseIs a0 b0 a2 b2 pk pm) (hay : WorseIs a0 b0 yk ym pk pm) (haa : WorseIs a0 b0 a0 b0 a0 b0)
    (h : b1 ≤ b0) (w : World) :
    Calls Try.prog 8 #[flt a0 b0, flt a0 b1, flt a2 b2] w fun e w' => e = .returned (.bool true) ∧ Below w.heap.size w w' := by
  have H1 := Lib.hid hab; have H2 := Lib.hid hbc; have H3 := Lib.hid hba; have H4 := Lib.hid hxc; have H5 := Lib.hid hay; have H6 := Lib.hid haa
  clear hab hbc hba hxc hay haa
  go_enter Try.func8, Try.ntmps8
  go_upto_region 1 with fail
  obtain ⟨W, hW⟩ : ∃ W, ((w.alloc (.cells #[.int .u8 a0, .int .i64 b0] 23)).alloc (.cells #[.int .u8 a0, .int .i64 b1] 23)).alloc (.cells #[.int .u8 a2, .int .i64 b2] 23) = W := ⟨_, rfl⟩
  have hx0 : W.heap[w.heap.size]? = some (.cells #[.int .u8 a0, .int .i64 b0] 23) := by rw [← hW]; exact al (al nw)
  have hx1 : W.heap[w.heap.size + 1]? = some (.cells #[.int .u8 a0, .int .i64 b1] 23) := by rw [← hW]; exact al nw1
  have hx2 : W.heap[w.heap.size + 1 + 1]? = some (.cells #[.int .u8 a2, .int .i64 b2] 23) := by rw [← hW]; exact nw2
  have hb0 : Below w.heap.size w W := by rw [← hW]; exact balloc (balloc (balloc (Below.refl _ _) _) _) _
  have HW := Lib.hid hW
  have HX0 := Lib.hid hx0; have HX1 := Lib.hid hx1; have HX2 := Lib.hid hx2; have HB0 := Lib.hid hb0
  rw [hW]
  clear hW hb0 hx0 hx1 hx2
  go_cut [7, 8] (fun s7 s8 wx => ∃ g h : Nat, s7 = .pointer (some ⟨g, 0, none⟩) ∧ s8 = .pointer (some ⟨h, 0, none⟩) ∧ wx.cell? ⟨g, 0, none⟩ = some (.int .u8 a0) ∧ wx.cell? ⟨g, 1, none⟩ = some (.int .i64 b0) ∧ wx.cell? ⟨h, 0, none⟩ = some (.int .u8 yk) ∧ wx.cell? ⟨h, 1, none⟩ = some (.int .i64 ym) ∧ Below W.heap.size W wx)
  case first =>
    obtain ⟨c0, c1, f0, f1⟩ := cell_two HX0.out
    obtain ⟨c2, c3, f2, f3⟩ := cell_two HX1.out
    obtain ⟨c4, c5, f4, f5⟩ := cell_two HX2.out
    have sOf : ∀ {w' : World}, Below W.heap.size W w' → w'.cell? ⟨w.heap.size, 0, none⟩ = some (.int .u8 a0) ∧ w'.cell? ⟨w.heap.size, 1, none⟩ = some (.int .i64 b0) ∧ w'.cell? ⟨w.heap.size + 1, 0, none⟩ = some (.int .u8 a0) ∧ w'.cell? ⟨w.heap.size + 1, 1, none⟩ = some (.int .i64 b1) ∧
        w'.cell? ⟨w.heap.size + 1 + 1, 0, none⟩ = some (.int .u8 a2) ∧ w'.cell? ⟨w.heap.size + 1 + 1, 1, none⟩ = some (.int .i64 b2) ∧ Below W.heap.size W w' ∧ W.heap.size ≤ w'.heap.size := fun hb => by
      have e0 := cell_two (carry hb HX0.out); have e1 := cell_two (carry hb HX1.out); have e2 := cell_two (carry hb HX2.out)
      exact ⟨e0.1, e0.2.1, e1.1, e1.2.1, e2.1, e2.2.1, hb, hb.size⟩
    have hg0 : ∀ (v : World) (o : Obj) (b off : Nat), b < v.heap.size → (v.alloc o).cell? ⟨b, off, none⟩ = v.cell? ⟨b, off, none⟩ := fun v o b off h => cell_alloc_lt h
    have hg1 : ∀ (v : World) (o : Obj) (b off : Nat), b < v.heap.size → (v.alloc o).frozen? ⟨b, off, none⟩ = v.frozen? ⟨b, off, none⟩ := fun v o b off h => frozen_alloc_lt h
    have l0 := lt_of_block HX0.out
    have l1 := lt_of_block HX1.out
    have l2 := lt_of_block HX2.out
    go_region_held3 (fun w' => w'.cell? ⟨w.heap.size, 0, none⟩ = some (.int .u8 a0) ∧ w'.cell? ⟨w.heap.size, 1, none⟩ = some (.int .i64 b0) ∧ w'.cell? ⟨w.heap.size + 1, 0, none⟩ = some (.int .u8 a0) ∧ w'.cell? ⟨w.heap.size + 1, 1, none⟩ = some (.int .i64 b1) ∧
        w'.cell? ⟨w.heap.size + 1 + 1, 0, none⟩ = some (.int .u8 a2) ∧ w'.cell? ⟨w.heap.size + 1 + 1, 1, none⟩ = some (.int .i64 b2) ∧ Below W.heap.size W w' ∧ W.heap.size ≤ w'.heap.size) (first
        | (refine sOf (w' := _) ?_; (repeat' (first | with_reducible assumption | with_reducible exact Below.refl _ _ | with_reducible refine balloc ?_ _ | with_reducible refine bset ?_ ?_ _ | with_reducible refine Below.drew ?_)); all_goals omega)
)
      (first
        | (go_at_call_of 36 (Value.agg #[Value.int IntKind.u8 a0, Value.int IntKind.i64 b0]); refine (H1.out _).mono ?_; rintro e w1 ⟨rfl, hb1⟩; (have hB1 : Below W.heap.size W w1 := (by refine bnext (w := _) ?_ hb1; (repeat' (first | with_reducible assumption | with_reducible exact Below.refl _ _ | with_reducible refine balloc ?_ _ | with_reducible refine Below.drew ?_)))); (obtain ⟨hc1, hf1⟩ := bcellw hb1); (have hs1 := hB1.size); (have hz1 := hb1.size); (try rw [World.size_drew] at hz1); (try rw [World.size_alloc] at hz1); (try rw [World.size_alloc] at hz1); (try rw [World.size_drew] at hz1); (try have l11 : W.heap.size < w1.heap.size := by omega); (try have l12 : W.heap.size < w1.heap.size + 1 := by omega); (try have l13 : W.heap.size + 1 < w1.heap.size := by omega); (try have l14 : W.heap.size + 1 < w1.heap.size + 1 := by omega); clear hb1)
        | (go_at_call_of 36 (Value.agg #[Value.int IntKind.u8 a2, Value.int IntKind.i64 b2]); refine (H2.out _).mono ?_; rintro e w2 ⟨rfl, hb2⟩; (have hB2 : Below W.heap.size W w2 := (by refine bnext (w := _) ?_ hb2; (repeat' (first | with_reducible assumption | with_reducible exact Below.refl _ _ | with_reducible refine balloc ?_ _ | with_reducible refine Below.drew ?_)))); (obtain ⟨hc2, hf2⟩ := bcellw hb2); (have hs2 := hB2.size); (have hz2 := hb2.size); (try rw [World.size_drew] at hz2); (try rw [World.size_alloc] at hz2); (try rw [World.size_alloc] at hz2); (try rw [World.size_drew] at hz2); (try have l21 : W.heap.size < w2.heap.size := by omega); (try have l22 : W.heap.size < w2.heap.size + 1 := by omega); (try have l23 : W.heap.size + 1 < w2.heap.size := by omega); (try have l24 : W.heap.size + 1 < w2.heap.size + 1 := by omega); (try have l25 : w1.heap.size < w2.heap.size := by omega); (try have l26 : w1.heap.size < w2.heap.size + 1 := by omega); (try have l27 : w1.heap.size + 1 < w2.heap.size := by omega); (try have l28 : w1.heap.size + 1 < w2.heap.size + 1 := by omega); clear hb2))
    all_goals
      go_wp2_with fail
      go_meet
      refine ⟨_, _, rfl, rfl, ?_, ?_, ?_, ?_, ?_⟩
      rotate_left 4
      · (repeat' (first | with_reducible assumption | with_reducible exact Below.refl _ _ | with_reducible refine balloc ?_ _ | with_reducible refine bset ?_ ?_ _ | with_reducible refine Below.drew ?_)); all_goals omega
      all_goals first
        | (go_simp; done)
        | (go_simp; refine World.cell?_setCell_same _ _ _ (u := .int .u8 0) ?_; go_simp; done)
        | (go_simp; refine World.cell?_setCell_same _ _ _ (u := .int .i64 0) ?_; go_simp; done)
  case rest =>
    obtain ⟨g, h, rfl, rfl, hg0, hg1, hh0, hh1, hb⟩ := hcut
    have k0 := carry hb HX0.out; have k1 := carry hb HX1.out; have k2 := carry hb HX2.out
    have HB := Lib.hid (HB0.out.trans (hb.mono HB0.out.size))
    obtain ⟨c0, c1⟩ := since_two k0
    obtain ⟨c2, c3⟩ := since_two k1
    obtain ⟨c4, c5⟩ := since_two k2
    have c6 := fun d : Since wc => (d.property.cell (p := ⟨g, 0, none⟩) (World.block_lt_of_cell? _ _ hg0)).trans hg0
    have c7 := fun d : Since wc => (d.property.cell (p := ⟨g, 1, none⟩) (World.block_lt_of_cell? _ _ hg1)).trans hg1
    have c8 := fun d : Since wc => (d.property.cell (p := ⟨h, 0, none⟩) (World.block_lt_of_cell? _ _ hh0)).trans hh0
    have c9 := fun d : Since wc => (d.property.cell (p := ⟨h, 1, none⟩) (World.block_lt_of_cell? _ _ hh1)).trans hh1
    clear hb k0 k1 k2 hg0 hg1 hh0 hh1
    go_wp2_with fail
    refine wp_region_since (by kernel_rfl) (by kernel_rfl) ?_
    repeat (go_big_quiet_step (first | with_reducible exact Calls.since_of (H3.out _) | with_reducible exact Calls.since_of (H4.out _) | with_reducible exact Calls.since_of (H5.out _) | with_reducible exact Calls.since_of (H6.out _) | with_reducible exact Calls.since_of (awake_true _)))
    refine wpQuiet_nil ?_
    rintro w' ⟨d, rfl⟩
    have HD := Lib.hid (bnext HB.out d.property)
    clear c0 c1 c2 c3 c4 c5 c6 c7 c8 c9
    go_wp2_with fail
    go_ret
    exact ⟨rfl, HD.out⟩

set_option maxRecDepth 100000 in
set_option maxHeartbeats 4000000 in
theorem order_3 (a0 b0 a1 b1 a2 b2 yk ym pk pm : Int) (hab : WorseIs a0 b0 a1 b1 a1 b1) (hbc : WorseIs a1 b1 a2 b2 yk ym) (hba : WorseIs a1 b1 a0 b0 a1 b1) (hxc : WorseIs a1 b1 a2 b2 pk pm) (hay : WorseIs a0 b0 yk ym pk pm) (haa : WorseIs a0 b0 a0 b0 a0 b0)
    (h : a1 < a0) (w : World) :
    Calls Try.prog 8 #[flt a0 b0, flt a1 b1, flt a2 b2] w fun e w' => e = .returned (.bool true) ∧ Below w.heap.size w w' := by
  have h1 : (a0 == a1) = false := by simpa using (by omega : ¬ a0 = a1)
  have h2 : (a0 != a1) = true := by simpa using (by omega : ¬ a0 = a1)
  have h3 : (a1 == a0) = false := by simpa using (by omega : ¬ a1 = a0)
  have h4 : ¬ a1 = a0 := by omega
  have H1 := Lib.hid hab; have H2 := Lib.hid hbc; have H3 := Lib.hid hba; have H4 := Lib.hid hxc; have H5 := Lib.hid hay; have H6 := Lib.hid haa
  clear hab hbc hba hxc hay haa
  go_enter Try.func8, Try.ntmps8
  go_upto_region 1 with fail
  obtain ⟨W, hW⟩ : ∃ W, ((w.alloc (.cells #[.int .u8 a0, .int .i64 b0] 23)).alloc (.cells #[.int .u8 a1, .int .i64 b1] 23)).alloc (.cells #[.int .u8 a2, .int .i64 b2] 23) = W := ⟨_, rfl⟩
  have hx0 : W.heap[w.heap.size]? = some (.cells #[.int .u8 a0, .int .i64 b0] 23) := by rw [← hW]; exact al (al nw)
  have hx1 : W.heap[w.heap.size + 1]? = some (.cells #[.int .u8 a1, .int .i64 b1] 23) := by rw [← hW]; exact al nw1
  have hx2 : W.heap[w.heap.size + 1 + 1]? = some (.cells #[.int .u8 a2, .int .i64 b2] 23) := by rw [← hW]; exact nw2
  have hb0 : Below w.heap.size w W := by rw [← hW]; exact balloc (balloc (balloc (Below.refl _ _) _) _) _
  have HW := Lib.hid hW
  have HX0 := Lib.hid hx0; have HX1 := Lib.hid hx1; have HX2 := Lib.hid hx2; have HB0 := Lib.hid hb0
  rw [hW]
  clear hW hb0 hx0 hx1 hx2
  go_cut [7, 8] (fun s7 s8 wx => ∃ g h : Nat, s7 = .pointer (some ⟨g, 0, none⟩) ∧ s8 = .pointer (some ⟨h, 0, none⟩) ∧ wx.cell? ⟨g, 0, none⟩ = some (.int .u8 a1) ∧ wx.cell? ⟨g, 1, none⟩ = some (.int .i64 b1) ∧ wx.cell? ⟨h, 0, none⟩ = some (.int .u8 yk) ∧ wx.cell? ⟨h, 1, none⟩ = some (.int .i64 ym) ∧ Below W.heap.size W wx)
  case first =>
    obtain ⟨c0, c1, f0, f1⟩ := cell_two HX0.out
    obtain ⟨c2, c3, f2, f3⟩ := cell_two HX1.out
    obtain ⟨c4, c5, f4, f5⟩ := cell_two HX2.out
    have sOf : ∀ {w' : World}, Below W.heap.size W w' → w'.cell? ⟨w.heap.size, 0, none⟩ = some (.int .u8 a0) ∧ w'.cell? ⟨w.heap.size, 1, none⟩ = some (.int .i64 b0) ∧ w'.cell? ⟨w.heap.size + 1, 0, none⟩ = some (.int .u8 a1) ∧ w'.cell? ⟨w.heap.size + 1, 1, none⟩ = some (.int .i64 b1) ∧
        w'.cell? ⟨w.heap.size + 1 + 1, 0, none⟩ = some (.int .u8 a2) ∧ w'.cell? ⟨w.heap.size + 1 + 1, 1, none⟩ = some (.int .i64 b2) ∧ Below W.heap.size W w' ∧ W.heap.size ≤ w'.heap.size := fun hb => by
      have e0 := cell_two (carry hb HX0.out); have e1 := cell_two (carry hb HX1.out); have e2 := cell_two (carry hb HX2.out)
      exact ⟨e0.1, e0.2.1, e1.1, e1.2.1, e2.1, e2.2.1, hb, hb.size⟩
    have hg0 : ∀ (v : World) (o : Obj) (b off : Nat), b < v.heap.size → (v.alloc o).cell? ⟨b, off, none⟩ = v.cell? ⟨b, off, none⟩ := fun v o b off h => cell_alloc_lt h
    have hg1 : ∀ (v : World) (o : Obj) (b off : Nat), b < v.heap.size → (v.alloc o).frozen? ⟨b, off, none⟩ = v.frozen? ⟨b, off, none⟩ := fun v o b off h => frozen_alloc_lt h
    have l0 := lt_of_block HX0.out
    have l1 := lt_of_block HX1.out
    have l2 := lt_of_block HX2.out
    go_region_held3 (fun w' => w'.cell? ⟨w.heap.size, 0, none⟩ = some (.int .u8 a0) ∧ w'.cell? ⟨w.heap.size, 1, none⟩ = some (.int .i64 b0) ∧ w'.cell? ⟨w.heap.size + 1, 0, none⟩ = some (.int .u8 a1) ∧ w'.cell? ⟨w.heap.size + 1, 1, none⟩ = some (.int .i64 b1) ∧
        w'.cell? ⟨w.heap.size + 1 + 1, 0, none⟩ = some (.int .u8 a2) ∧ w'.cell? ⟨w.heap.size + 1 + 1, 1, none⟩ = some (.int .i64 b2) ∧ Below W.heap.size W w' ∧ W.heap.size ≤ w'.heap.size) (first
        | (refine sOf (w' := _) ?_; (repeat' (first | with_reducible assumption | with_reducible exact Below.refl _ _ | with_reducible refine balloc ?_ _ | with_reducible refine bset ?_ ?_ _ | with_reducible refine Below.drew ?_)); all_goals omega)
)
      (first
        | (go_at_call_of 36 (Value.agg #[Value.int IntKind.u8 a0, Value.int IntKind.i64 b0]); refine (H1.out _).mono ?_; rintro e w1 ⟨rfl, hb1⟩; (have hB1 : Below W.heap.size W w1 := (by refine bnext (w := _) ?_ hb1; (repeat' (first | with_reducible assumption | with_reducible exact Below.refl _ _ | with_reducible refine balloc ?_ _ | with_reducible refine Below.drew ?_)))); (obtain ⟨hc1, hf1⟩ := bcellw hb1); (have hs1 := hB1.size); (have hz1 := hb1.size); (try rw [World.size_drew] at hz1); (try rw [World.size_alloc] at hz1); (try rw [World.size_alloc] at hz1); (try rw [World.size_drew] at hz1); (try have l11 : W.heap.size < w1.heap.size := by omega); (try have l12 : W.heap.size < w1.heap.size + 1 := by omega); (try have l13 : W.heap.size + 1 < w1.heap.size := by omega); (try have l14 : W.heap.size + 1 < w1.heap.size + 1 := by omega); clear hb1)
        | (go_at_call_of 36 (Value.agg #[Value.int IntKind.u8 a2, Value.int IntKind.i64 b2]); refine (H2.out _).mono ?_; rintro e w2 ⟨rfl, hb2⟩; (have hB2 : Below W.heap.size W w2 := (by refine bnext (w := _) ?_ hb2; (repeat' (first | with_reducible assumption | with_reducible exact Below.refl _ _ | with_reducible refine balloc ?_ _ | with_reducible refine Below.drew ?_)))); (obtain ⟨hc2, hf2⟩ := bcellw hb2); (have hs2 := hB2.size); (have hz2 := hb2.size); (try rw [World.size_drew] at hz2); (try rw [World.size_alloc] at hz2); (try rw [World.size_alloc] at hz2); (try rw [World.size_drew] at hz2); (try have l21 : W.heap.size < w2.heap.size := by omega); (try have l22 : W.heap.size < w2.heap.size + 1 := by omega); (try have l23 : W.heap.size + 1 < w2.heap.size := by omega); (try have l24 : W.heap.size + 1 < w2.heap.size + 1 := by omega); (try have l25 : w1.heap.size < w2.heap.size := by omega); (try have l26 : w1.heap.size < w2.heap.size + 1 := by omega); (try have l27 : w1.heap.size + 1 < w2.heap.size := by omega); (try have l28 : w1.heap.size + 1 < w2.heap.size + 1 := by omega); clear hb2))
    all_goals
      go_wp2_with fail
      go_meet
      refine ⟨_, _, rfl, rfl, ?_, ?_, ?_, ?_, ?_⟩
      rotate_left 4
      · (repeat' (first | with_reducible assumption | with_reducible exact Below.refl _ _ | with_reducible refine balloc ?_ _ | with_reducible refine bset ?_ ?_ _ | with_reducible refine Below.drew ?_)); all_goals omega
      all_goals first
        | (go_simp; done)
        | (go_simp; refine World.cell?_setCell_same _ _ _ (u := .int .u8 0) ?_; go_simp; done)
        | (go_simp; refine World.cell?_setCell_same _ _ _ (u := .int .i64 0) ?_; go_simp; done)
  case rest =>
    obtain ⟨g, h, rfl, rfl, hg0, hg1, hh0, hh1, hb⟩ := hcut
    have k0 := carry hb HX0.out; have k1 := carry hb HX1.out; have k2 := carry hb HX2.out
    have HB := Lib.hid (HB0.out.trans (hb.mono HB0.out.size))
    obtain ⟨c0, c1⟩ := since_two k0
    obtain ⟨c2, c3⟩ := since_two k1
    obtain ⟨c4, c5⟩ := since_two k2
    have c6 := fun d : Since wc => (d.property.cell (p := ⟨g, 0, none⟩) (World.block_lt_of_cell? _ _ hg0)).trans hg0
    have c7 := fun d : Since wc => (d.property.cell (p := ⟨g, 1, none⟩) (World.block_lt_of_cell? _ _ hg1)).trans hg1
    have c8 := fun d : Since wc => (d.property.cell (p := ⟨h, 0, none⟩) (World.block_lt_of_cell? _ _ hh0)).trans hh0
    have c9 := fun d : Since wc => (d.property.cell (p := ⟨h, 1, none⟩) (World.block_lt_of_cell? _ _ hh1)).trans hh1
    clear hb k0 k1 k2 hg0 hg1 hh0 hh1
    go_wp2_with fail
    refine wp_region_since (by kernel_rfl) (by kernel_rfl) ?_
    repeat (go_big_quiet_step (first | with_reducible exact Calls.since_of (H3.out _) | with_reducible exact Calls.since_of (H4.out _) | with_reducible exact Calls.since_of (H5.out _) | with_reducible exact Calls.since_of (H6.out _) | with_reducible exact Calls.since_of (awake_true _)))
    refine wpQuiet_nil ?_
    rintro w' ⟨d, rfl⟩
    have HD := Lib.hid (bnext HB.out d.property)
    clear c0 c1 c2 c3 c4 c5 c6 c7 c8 c9
    go_wp2_with fail
    go_ret
    exact ⟨rfl, HD.out⟩

set_option maxRecDepth 100000 in
set_option maxHeartbeats 4000000 in
theorem order_4 (a0 b0 b1 a2 b2 yk ym pk pm : Int) (hab : WorseIs a0 b0 a0 b1 a0 b1) (hbc : WorseIs a0 b1 a2 b2 yk ym) (hba : WorseIs a0 b1 a0 b0 a0 b1) (hxc : WorseIs a0 b1 a2 b2 pk pm) (hay : WorseIs a0 b0 yk ym pk pm) (haa : WorseIs a0 b0 a0 b0 a0 b0)
    (h : b0 < b1) (w : World) :
    Calls Try.prog 8 #[flt a0 b0, flt a0 b1, flt a2 b2] w fun e w' => e = .returned (.bool true) ∧ Below w.heap.size w w' := by
  have h3 : (b1 == b0) = false := by simpa using (by omega : ¬ b1 = b0)
  have h4 : ¬ b1 = b0 := by omega
  have H1 := Lib.hid hab; have H2 := Lib.hid hbc; have H3 := Lib.hid hba; have H4 := Lib.hid hxc; have H5 := Lib.hid hay; have H6 := Lib.hid haa
  clear hab hbc hba hxc hay haa
  go_enter Try.func8, Try.ntmps8
  go_upto_region 1 with fail
  obtain ⟨W, hW⟩ : ∃ W, ((w.alloc (.cells #[.int .u8 a0, .int .i64 b0] 23)).alloc (.cells #[.int .u8 a0, .int .i64 b1] 23)).alloc (.cells #[.int .u8 a2, .int .i64 b2] 23) = W := ⟨_, rfl⟩
  have hx0 : W.heap[w.heap.size]? = some (.cells #[.int .u8 a0, .int .i64 b0] 23) := by rw [← hW]; exact al (al nw)
  have hx1 : W.heap[w.heap.size + 1]? = some (.cells #[.int .u8 a0, .int .i64 b1] 23) := by rw [← hW]; exact al nw1
  have hx2 : W.heap[w.heap.size + 1 + 1]? = some (.cells #[.int .u8 a2, .int .i64 b2] 23) := by rw [← hW]; exact nw2
  have hb0 : Below w.heap.size w W := by rw [← hW]; exact balloc (balloc (balloc (Below.refl _ _) _) _) _
  have HW := Lib.hid hW
  have HX0 := Lib.hid hx0; have HX1 := Lib.hid hx1; have HX2 := Lib.hid hx2; have HB0 := Lib.hid hb0
  rw [hW]
  clear hW hb0 hx0 hx1 hx2
  go_cut [7, 8] (fun s7 s8 wx => ∃ g h : Nat, s7 = .pointer (some ⟨g, 0, none⟩) ∧ s8 = .pointer (some ⟨h, 0, none⟩) ∧ wx.cell? ⟨g, 0, none⟩ = some (.int .u8 a0) ∧ wx.cell? ⟨g, 1, none⟩ = some (.int .i64 b1) ∧ wx.cell? ⟨h, 0, none⟩ = some (.int .u8 yk) ∧ wx.cell? ⟨h, 1, none⟩ = some (.int .i64 ym) ∧ Below W.heap.size W wx)
  case first =>
    obtain ⟨c0, c1, f0, f1⟩ := cell_two HX0.out
    obtain ⟨c2, c3, f2, f3⟩ := cell_two HX1.out
    obtain ⟨c4, c5, f4, f5⟩ := cell_two HX2.out
    have sOf : ∀ {w' : World}, Below W.heap.size W w' → w'.cell? ⟨w.heap.size, 0, none⟩ = some (.int .u8 a0) ∧ w'.cell? ⟨w.heap.size, 1, none⟩ = some (.int .i64 b0) ∧ w'.cell? ⟨w.heap.size + 1, 0, none⟩ = some (.int .u8 a0) ∧ w'.cell? ⟨w.heap.size + 1, 1, none⟩ = some (.int .i64 b1) ∧
        w'.cell? ⟨w.heap.size + 1 + 1, 0, none⟩ = some (.int .u8 a2) ∧ w'.cell? ⟨w.heap.size + 1 + 1, 1, none⟩ = some (.int .i64 b2) ∧ Below W.heap.size W w' ∧ W.heap.size ≤ w'.heap.size := fun hb => by
      have e0 := cell_two (carry hb HX0.out); have e1 := cell_two (carry hb HX1.out); have e2 := cell_two (carry hb HX2.out)
      exact ⟨e0.1, e0.2.1, e1.1, e1.2.1, e2.1, e2.2.1, hb, hb.size⟩
    have hg0 : ∀ (v : World) (o : Obj) (b off : Nat), b < v.heap.size → (v.alloc o).cell? ⟨b, off, none⟩ = v.cell? ⟨b, off, none⟩ := fun v o b off h => cell_alloc_lt h
    have hg1 : ∀ (v : World) (o : Obj) (b off : Nat), b < v.heap.size → (v.alloc o).frozen? ⟨b, off, none⟩ = v.frozen? ⟨b, off, none⟩ := fun v o b off h => frozen_alloc_lt h
    have l0 := lt_of_block HX0.out
    have l1 := lt_of_block HX1.out
    have l2 := lt_of_block HX2.out
    go_region_held3 (fun w' => w'.cell? ⟨w.heap.size, 0, none⟩ = some (.int .u8 a0) ∧ w'.cell? ⟨w.heap.size, 1, none⟩ = some (.int .i64 b0) ∧ w'.cell? ⟨w.heap.size + 1, 0, none⟩ = some (.int .u8 a0) ∧ w'.cell? ⟨w.heap.size + 1, 1, none⟩ = some (.int .i64 b1) ∧
        w'.cell? ⟨w.heap.size + 1 + 1, 0, none⟩ = some (.int .u8 a2) ∧ w'.cell? ⟨w.heap.size + 1 + 1, 1, none⟩ = some (.int .i64 b2) ∧ Below W.heap.size W w' ∧ W.heap.size ≤ w'.heap.size) (first
        | (refine sOf (w' := _) ?_; (repeat' (first | with_reducible assumption | with_reducible exact Below.refl _ _ | with_reducible refine balloc ?_ _ | with_reducible refine bset ?_ ?_ _ | with_reducible refine Below.drew ?_)); all_goals omega)
)
      (first
        | (go_at_call_of 36 (Value.agg #[Value.int IntKind.u8 a0, Value.int IntKind.i64 b0]); refine (H1.out _).mono ?_; rintro e w1 ⟨rfl, hb1⟩; (have hB1 : Below W.heap.size W w1 := (by refine bnext (w := _) ?_ hb1; (repeat' (first | with_reducible assumption | with_reducible exact Below.refl _ _ | with_reducible refine balloc ?_ _ | with_reducible refine Below.drew ?_)))); (obtain ⟨hc1, hf1⟩ := bcellw hb1); (have hs1 := hB1.size); (have hz1 := hb1.size); (try rw [World.size_drew] at hz1); (try rw [World.size_alloc] at hz1); (try rw [World.size_alloc] at hz1); (try rw [World.size_drew] at hz1); (try have l11 : W.heap.size < w1.heap.size := by omega); (try have l12 : W.heap.size < w1.heap.size + 1 := by omega); (try have l13 : W.heap.size + 1 < w1.heap.size := by omega); (try have l14 : W.heap.size + 1 < w1.heap.size + 1 := by omega); clear hb1)
        | (go_at_call_of 36 (Value.agg #[Value.int IntKind.u8 a2, Value.int IntKind.i64 b2]); refine (H2.out _).mono ?_; rintro e w2 ⟨rfl, hb2⟩; (have hB2 : Below W.heap.size W w2 := (by refine bnext (w := _) ?_ hb2; (repeat' (first | with_reducible assumption | with_reducible exact Below.refl _ _ | with_reducible refine balloc ?_ _ | with_reducible refine Below.drew ?_)))); (obtain ⟨hc2, hf2⟩ := bcellw hb2); (have hs2 := hB2.size); (have hz2 := hb2.size); (try rw [World.size_drew] at hz2); (try rw [World.size_alloc] at hz2); (try rw [World.size_alloc] at hz2); (try rw [World.size_drew] at hz2); (try have l21 : W.heap.size < w2.heap.size := by omega); (try have l22 : W.heap.size < w2.heap.size + 1 := by omega); (try have l23 : W.heap.size + 1 < w2.heap.size := by omega); (try have l24 : W.heap.size + 1 < w2.heap.size + 1 := by omega); (try have l25 : w1.heap.size < w2.heap.size := by omega); (try have l26 : w1.heap.size < w2.heap.size + 1 := by omega); (try have l27 : w1.heap.size + 1 < w2.heap.size := by omega); (try have l28 : w1.heap.size + 1 < w2.heap.size + 1 := by omega); clear hb2))
    all_goals
      go_wp2_with fail
      go_meet
      refine ⟨_, _, rfl, rfl, ?_, ?_, ?_, ?_, ?_⟩
      rotate_left 4
      · (repeat' (first | with_reducible assumption | with_reducible exact Below.refl _ _ | with_reducible refine balloc ?_ _ | with_reducible refine bset ?_ ?_ _ | with_reducible refine Below.drew ?_)); all_goals omega
      all_goals first
        | (go_simp; done)
        | (go_simp; refine World.cell?_setCell_same _ _ _ (u := .int .u8 0) ?_; go_simp; done)
        | (go_simp; refine World.cell?_setCell_same _ _ _ (u := .int .i64 0) ?_; go_simp; done)
  case rest =>
    obtain ⟨g, h, rfl, rfl, hg0, hg1, hh0, hh1, hb⟩ := hcut
    have k0 := carry hb HX0.out; have k1 := carry hb HX1.out; have k2 := carry hb HX2.out
    have HB := Lib.hid (HB0.out.trans (hb.mono HB0.out.size))
    obtain ⟨c0, c1⟩ := since_two k0
    obtain ⟨c2, c3⟩ := since_two k1
    obtain ⟨c4, c5⟩ := since_two k2
    have c6 := fun d : Since wc => (d.property.cell (p := ⟨g, 0, none⟩) (World.block_lt_of_cell? _ _ hg0)).trans hg0
    have c7 := fun d : Since wc => (d.property.cell (p := ⟨g, 1, none⟩) (World.block_lt_of_cell? _ _ hg1)).trans hg1
    have c8 := fun d : Since wc => (d.property.cell (p := ⟨h, 0, none⟩) (World.block_lt_of_cell? _ _ hh0)).trans hh0
    have c9 := fun d : Since wc => (d.property.cell (p := ⟨h, 1, none⟩) (World.block_lt_of_cell? _ _ hh1)).trans hh1
    clear hb k0 k1 k2 hg0 hg1 hh0 hh1
    go_wp2_with fail
    refine wp_region_since (by kernel_rfl) (by kernel_rfl) ?_
    repeat (go_big_quiet_step (first | with_reducible exact Calls.since_of (H3.out _) | with_reducible exact Calls.since_of (H4.out _) | with_reducible exact Calls.since_of (H5.out _) | with_reducible exact Calls.since_of (H6.out _) | with_reducible exact Calls.since_of (awake_true _)))
    refine wpQuiet_nil ?_
    rintro w' ⟨d, rfl⟩
    have HD := Lib.hid (bnext HB.out d.property)
    clear c0 c1 c2 c3 c4 c5 c6 c7 c8 c9
    go_wp2_with fail
    go_ret
    exact ⟨rfl, HD.out⟩

end Go.Proofs.Ytpjccbbemhjgbaa
