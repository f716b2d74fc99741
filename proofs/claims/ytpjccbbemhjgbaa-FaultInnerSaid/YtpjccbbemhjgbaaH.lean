import Derived.Test.YtpjccbbemhjgbaaG
namespace Go.Proofs.Ytpjccbbemhjgbaa
open Go.RowKit

/-- The ten variables of FaultInner that its closures share. -/
structure Bx (N : Nat) (a b : Int) (odd : Bool) (p q ik im : Int) (inn : Bool) (st ok om : Int) (out : Bool) (w : World) : Prop where
  xa : w.heap[N]? = some (.cells #[.int .i64 a] 3)
  xb : w.heap[N + 1]? = some (.cells #[.int .i64 b] 3)
  xodd : w.heap[N + 2]? = some (.cells #[.bool odd] 4)
  xp : w.heap[N + 3]? = some (.cells #[.int .u8 p] 5)
  xq : w.heap[N + 4]? = some (.cells #[.int .u8 q] 5)
  xi : w.heap[N + 5]? = some (.cells #[.int .u8 ik, .int .i64 im] 23)
  xin : w.heap[N + 6]? = some (.cells #[.bool inn] 4)
  xst : w.heap[N + 7]? = some (.cells #[.int .i64 st] 3)
  xo : w.heap[N + 8]? = some (.cells #[.int .u8 ok, .int .i64 om] 23)
  xout : w.heap[N + 9]? = some (.cells #[.bool out] 4)

/-- Nothing below N and nothing from N + 10 on turns. -/
structure Fr (N : Nat) (w w' : World) : Prop where
  low : Below N w w'
  high : Above (N + 10) w w'

theorem Fr.refl (N : Nat) (w : World) : Fr N w w := ⟨Below.refl _ _, Nat.le_refl _, fun _ _ _ => rfl⟩
theorem Fr.trans {N : Nat} {a b c : World} (h : Fr N a b) (k : Fr N b c) : Fr N a c :=
  ⟨h.low.trans k.low, Nat.le_trans h.high.size k.high.size, fun i h1 h2 => (k.high.block i h1 (Nat.lt_of_lt_of_le h2 h.high.size)).trans (h.high.block i h1 h2)⟩
theorem Fr.set {N : Nat} {a w : World} (h : Fr N a w) {b off : Nat} (h1 : N ≤ b) (h2 : b < N + 10) (v : Value) : Fr N a (w.setCell ⟨b, off, none⟩ v) :=
  ⟨bset h.low h1 _, by simpa using h.high.size, fun i h3 h4 => (heap_setCell_ne (by omega)).trans (h.high.block i h3 h4)⟩
theorem Fr.below {N : Nat} {w w' : World} (h : Below w.heap.size w w') (hN : N ≤ w.heap.size) : Fr N w w' := ⟨h.mono hN, babove h⟩
theorem Fr.drew {N : Nat} {a w : World} (h : Fr N a w) : Fr N a w.drew := h.trans ⟨(Below.refl _ _).drew, Nat.le_refl _, fun _ _ _ => rfl⟩

theorem Fr.mid {N : Nat} {w w0 w1 w2 : World} (h0 : Below w.heap.size w w0) (h1 : Fr N w0 w1) (h2 : Below w.heap.size w1 w2) (hN : N ≤ w.heap.size) : Fr N w w2 :=
  ⟨((h0.mono hN).trans h1.low).trans (h2.mono hN), by have := h0.size; have := h1.high.size; have := h2.size; omega, fun k a b => by
    rw [h2.block k b, h1.high.block k a (Nat.lt_of_lt_of_le b h0.size), h0.block k b]⟩

section
variable {N : Nat} {a b : Int} {odd : Bool} {p q ik im : Int} {inn : Bool} {st ok om : Int} {out : Bool} {w : World}
theorem Bx.lt (h : Bx N a b odd p q ik im inn st ok om out w) : N + 9 < w.heap.size := lt_of_block h.xout
theorem Bx.below (h : Bx N a b odd p q ik im inn st ok om out w) {w' : World} (hb : Below (N + 10) w w') : Bx N a b odd p q ik im inn st ok om out w' := by
  obtain ⟨h0, h1, h2, h3, h4, h5, h6, h7, h8, h9⟩ := h
  exact ⟨by rw [hb.block _ (by omega)]; exact h0, by rw [hb.block _ (by omega)]; exact h1, by rw [hb.block _ (by omega)]; exact h2, by rw [hb.block _ (by omega)]; exact h3, by rw [hb.block _ (by omega)]; exact h4,
    by rw [hb.block _ (by omega)]; exact h5, by rw [hb.block _ (by omega)]; exact h6, by rw [hb.block _ (by omega)]; exact h7, by rw [hb.block _ (by omega)]; exact h8, by rw [hb.block _ (by omega)]; exact h9⟩
theorem Bx.drew (h : Bx N a b odd p q ik im inn st ok om out w) : Bx N a b odd p q ik im inn st ok om out w.drew := h.below (Below.refl _ _).drew
theorem Bx.next (h : Bx N a b odd p q ik im inn st ok om out w) {w' : World} (hb : Below w.heap.size w w') : Bx N a b odd p q ik im inn st ok om out w' := h.below (hb.mono (by have := h.lt; omega))
theorem Bx.setSt (h : Bx N a b odd p q ik im inn st ok om out w) (st' : Int) : Bx N a b odd p q ik im inn st' ok om out (w.setCell ⟨N + 7, 0, none⟩ (.int .i64 st')) := by
  obtain ⟨h0, h1, h2, h3, h4, h5, h6, h7, h8, h9⟩ := h
  exact ⟨by rw [heap_setCell_ne (by omega)]; exact h0, by rw [heap_setCell_ne (by omega)]; exact h1, by rw [heap_setCell_ne (by omega)]; exact h2, by rw [heap_setCell_ne (by omega)]; exact h3, by rw [heap_setCell_ne (by omega)]; exact h4,
    by rw [heap_setCell_ne (by omega)]; exact h5, by rw [heap_setCell_ne (by omega)]; exact h6, by rw [heap_setCell_at h7]; rfl, by rw [heap_setCell_ne (by omega)]; exact h8, by rw [heap_setCell_ne (by omega)]; exact h9⟩
theorem Bx.setIn (h : Bx N a b odd p q ik im inn st ok om out w) (x : Bool) : Bx N a b odd p q ik im x st ok om out (w.setCell ⟨N + 6, 0, none⟩ (.bool x)) := by
  obtain ⟨h0, h1, h2, h3, h4, h5, h6, h7, h8, h9⟩ := h
  exact ⟨by rw [heap_setCell_ne (by omega)]; exact h0, by rw [heap_setCell_ne (by omega)]; exact h1, by rw [heap_setCell_ne (by omega)]; exact h2, by rw [heap_setCell_ne (by omega)]; exact h3, by rw [heap_setCell_ne (by omega)]; exact h4,
    by rw [heap_setCell_ne (by omega)]; exact h5, by rw [heap_setCell_at h6]; rfl, by rw [heap_setCell_ne (by omega)]; exact h7, by rw [heap_setCell_ne (by omega)]; exact h8, by rw [heap_setCell_ne (by omega)]; exact h9⟩
theorem Bx.setOut (h : Bx N a b odd p q ik im inn st ok om out w) (x : Bool) : Bx N a b odd p q ik im inn st ok om x (w.setCell ⟨N + 9, 0, none⟩ (.bool x)) := by
  obtain ⟨h0, h1, h2, h3, h4, h5, h6, h7, h8, h9⟩ := h
  exact ⟨by rw [heap_setCell_ne (by omega)]; exact h0, by rw [heap_setCell_ne (by omega)]; exact h1, by rw [heap_setCell_ne (by omega)]; exact h2, by rw [heap_setCell_ne (by omega)]; exact h3, by rw [heap_setCell_ne (by omega)]; exact h4,
    by rw [heap_setCell_ne (by omega)]; exact h5, by rw [heap_setCell_ne (by omega)]; exact h6, by rw [heap_setCell_ne (by omega)]; exact h7, by rw [heap_setCell_ne (by omega)]; exact h8, by rw [heap_setCell_at h9]; rfl⟩
theorem Bx.setI (h : Bx N a b odd p q ik im inn st ok om out w) (x y : Int) : Bx N a b odd p q x y inn st ok om out ((w.setCell ⟨N + 5, 0, none⟩ (.int .u8 x)).setCell ⟨N + 5, 1, none⟩ (.int .i64 y)) := by
  obtain ⟨h0, h1, h2, h3, h4, h5, h6, h7, h8, h9⟩ := h
  exact ⟨by rw [heap_setCell_ne (by omega), heap_setCell_ne (by omega)]; exact h0, by rw [heap_setCell_ne (by omega), heap_setCell_ne (by omega)]; exact h1, by rw [heap_setCell_ne (by omega), heap_setCell_ne (by omega)]; exact h2, by rw [heap_setCell_ne (by omega), heap_setCell_ne (by omega)]; exact h3, by rw [heap_setCell_ne (by omega), heap_setCell_ne (by omega)]; exact h4,
    by rw [heap_setCell_at (heap_setCell_at h5)]; rfl, by rw [heap_setCell_ne (by omega), heap_setCell_ne (by omega)]; exact h6, by rw [heap_setCell_ne (by omega), heap_setCell_ne (by omega)]; exact h7, by rw [heap_setCell_ne (by omega), heap_setCell_ne (by omega)]; exact h8, by rw [heap_setCell_ne (by omega), heap_setCell_ne (by omega)]; exact h9⟩
theorem Bx.setO (h : Bx N a b odd p q ik im inn st ok om out w) (x y : Int) : Bx N a b odd p q ik im inn st x y out ((w.setCell ⟨N + 8, 0, none⟩ (.int .u8 x)).setCell ⟨N + 8, 1, none⟩ (.int .i64 y)) := by
  obtain ⟨h0, h1, h2, h3, h4, h5, h6, h7, h8, h9⟩ := h
  exact ⟨by rw [heap_setCell_ne (by omega), heap_setCell_ne (by omega)]; exact h0, by rw [heap_setCell_ne (by omega), heap_setCell_ne (by omega)]; exact h1, by rw [heap_setCell_ne (by omega), heap_setCell_ne (by omega)]; exact h2, by rw [heap_setCell_ne (by omega), heap_setCell_ne (by omega)]; exact h3, by rw [heap_setCell_ne (by omega), heap_setCell_ne (by omega)]; exact h4,
    by rw [heap_setCell_ne (by omega), heap_setCell_ne (by omega)]; exact h5, by rw [heap_setCell_ne (by omega), heap_setCell_ne (by omega)]; exact h6, by rw [heap_setCell_ne (by omega), heap_setCell_ne (by omega)]; exact h7, by rw [heap_setCell_at (heap_setCell_at h8)]; rfl, by rw [heap_setCell_ne (by omega), heap_setCell_ne (by omega)]; exact h9⟩
end

theorem ent12 : Ent 12 := fun _ _ => by kernel_rfl
theorem ent14 : Ent 14 := fun _ _ => by kernel_rfl
theorem ent15 : Ent 15 := fun _ _ => by kernel_rfl

abbrev at0 (n : Nat) : Value := .pointer (some ⟨n, 0, none⟩)

theorem f15_odd {N : Nat} {a b p q : Int} {w : World} (h : Bx N a b true p q 0 0 false 0 0 0 false w) :
    Calls Try.prog 15 #[at0 (N + 7), at0 (N + 2), at0 N, at0 (N + 3)] w fun e w' => (∃ x, e = .panicked [{ v := .iface 8 x, recovered := false }]) ∧ Bx N a b true p q 0 0 false 1 0 0 false w' ∧ Fr N w w' := by
  have H := Lib.hid h
  obtain ⟨c0, f0⟩ := cell_one h.xst
  obtain ⟨c1, f1⟩ := cell_one h.xodd
  obtain ⟨c2, f2⟩ := cell_one h.xa
  clear h
  go_enter Try.func15, Try.ntmps15
  go_wp2_with fail
  refine (boom_any _ _).mono ?_
  rintro e w' ⟨x, rfl, hw⟩
  refine ⟨rfl, ⟨x, rfl⟩, ?_⟩
  rcases hw with rfl | rfl
  · exact ⟨H.out.setSt _, (Fr.refl _ _).set (by omega) (by omega) _⟩
  · exact ⟨(H.out.setSt _).drew, ((Fr.refl _ _).set (by omega) (by omega) _).drew⟩

theorem f15_fault {N : Nat} {a b p q : Int} (hp : 1 ≤ p) (hp2 : p ≤ 2) {w : World} (h : Bx N a b false p q 0 0 false 0 0 0 false w) :
    Calls Try.prog 15 #[at0 (N + 7), at0 (N + 2), at0 N, at0 (N + 3)] w fun e w' => e = .panicked [{ v := .iface 23 (.agg #[.int .u8 p, .int .i64 a]), recovered := false }] ∧ Bx N a b false p q 0 0 false 1 0 0 false w' ∧ Fr N w w' := by
  have H := Lib.hid h
  obtain ⟨c0, f0⟩ := cell_one h.xst
  obtain ⟨c1, f1⟩ := cell_one h.xodd
  obtain ⟨c2, f2⟩ := cell_one h.xa
  obtain ⟨c3, f3⟩ := cell_one h.xp
  have hp0 : 0 < p := by omega
  clear h
  go_enter Try.func15, Try.ntmps15
  go_wp2_with fail
  refine (throw_good _ _ hp hp2 _).mono ?_
  rintro e w' ⟨rfl, rfl⟩
  exact ⟨rfl, rfl, H.out.setSt _, (Fr.refl _ _).set (by omega) (by omega) _⟩

theorem f15_ret {N : Nat} {a b q : Int} {w : World} (h : Bx N a b false 0 q 0 0 false 0 0 0 false w) :
    Calls Try.prog 15 #[at0 (N + 7), at0 (N + 2), at0 N, at0 (N + 3)] w fun e w' => e = .returned (.tuple #[]) ∧ Bx N a b false 0 q 0 0 false 11 0 0 false w' ∧ Fr N w w' := by
  have H := Lib.hid h
  obtain ⟨c0, f0⟩ := cell_one h.xst
  obtain ⟨c1, f1⟩ := cell_one h.xodd
  obtain ⟨c2, f2⟩ := cell_one h.xa
  obtain ⟨c3, f3⟩ := cell_one h.xp
  clear h
  go_enter Try.func15, Try.ntmps15
  go_wp2_with fail
  go_end0
  exact ⟨rfl, (H.out.setSt _).setSt _, ((Fr.refl _ _).set (by omega) (by omega) _).set (by omega) (by omega) _⟩

/-- Catch of the innermost function: what its results are. -/
theorem c15_odd {N : Nat} {a b p q : Int} {w : World} (h : Bx N a b true p q 0 0 false 0 0 0 false w) :
    Calls Try.prog 13 #[.func (.func 15) #[] #[at0 (N + 7), at0 (N + 2), at0 N, at0 (N + 3)]] w fun e w' => (∃ x, e = .panicked [{ v := .iface 8 x, recovered := false }, { v := .iface 8 x, recovered := true }]) ∧ Bx N a b true p q 0 0 false 1 0 0 false w' ∧ Fr N w w' :=
  catch_calls ent15 fun w0 hb => (f15_odd (h.next hb)).mono fun e w1 ⟨⟨x, he⟩, hB, hF⟩ => by
    subst he
    have hlt := h.lt
    exact ⟨⟨hF.high.size, fun k h1 h2 => hF.high.block k (by omega) h2⟩, _, .other 8 x [] (by decide), fun w2 hb2 => ⟨⟨x, rfl⟩, hB.below (hb2.mono (by omega)), Fr.mid hb hF hb2 (by omega)⟩⟩

theorem c15_fault {N : Nat} {a b p q : Int} (hp : 1 ≤ p) (hp2 : p ≤ 2) {w : World} (h : Bx N a b false p q 0 0 false 0 0 0 false w) :
    Calls Try.prog 13 #[.func (.func 15) #[] #[at0 (N + 7), at0 (N + 2), at0 N, at0 (N + 3)]] w fun e w' => e = .returned (.tuple #[.agg #[.int .u8 p, .int .i64 a], .bool true, .int .i64 0]) ∧ Bx N a b false p q 0 0 false 1 0 0 false w' ∧ Fr N w w' :=
  catch_calls ent15 fun w0 hb => (f15_fault hp hp2 (h.next hb)).mono fun e w1 ⟨he, hB, hF⟩ => by
    subst he
    have hlt := h.lt
    exact ⟨⟨hF.high.size, fun k h1 h2 => hF.high.block k (by omega) h2⟩, _, .fault _ _ [] hp hp2 rfl, fun w2 hb2 => ⟨rfl, hB.below (hb2.mono (by omega)), Fr.mid hb hF hb2 (by omega)⟩⟩

theorem c15_ret {N : Nat} {a b q : Int} {w : World} (h : Bx N a b false 0 q 0 0 false 0 0 0 false w) :
    Calls Try.prog 13 #[.func (.func 15) #[] #[at0 (N + 7), at0 (N + 2), at0 N, at0 (N + 3)]] w fun e w' => e = .returned (.tuple #[.agg #[.int .u8 0, .int .i64 0], .bool false, .int .i64 0]) ∧ Bx N a b false 0 q 0 0 false 11 0 0 false w' ∧ Fr N w w' :=
  catch_calls ent15 fun w0 hb => (f15_ret (h.next hb)).mono fun e w1 ⟨he, hB, hF⟩ => by
    subst he
    have hlt := h.lt
    exact ⟨⟨hF.high.size, fun k h1 h2 => hF.high.block k (by omega) h2⟩, _, .ret, fun w2 hb2 => ⟨rfl, hB.below (hb2.mono (by omega)), Fr.mid hb hF hb2 (by omega)⟩⟩

abbrev caps14 (N : Nat) : Array Value := #[at0 (N + 7), at0 (N + 2), at0 N, at0 (N + 3), at0 (N + 5), at0 (N + 6), at0 (N + 4), at0 (N + 1)]

theorem f14_odd {N : Nat} {a b p q : Int} {w : World} (h : Bx N a b true p q 0 0 false 0 0 0 false w) :
    Calls Try.prog 14 (caps14 N) w fun e w' => (∃ x, e = .panicked [{ v := .iface 8 x, recovered := false }, { v := .iface 8 x, recovered := true }]) ∧ Bx N a b true p q 0 0 false 1 0 0 false w' ∧ Fr N w w' := by
  have hmf : ∀ (fn : Fn) (first cap : Array Value) (w : World), (Instr.makeFunc fn first cap).run Try.prog w = .ok (.func fn first cap) w := fun _ _ _ _ => rfl
  have H := Lib.hid h
  clear h
  go_enter Try.func14, Try.ntmps14
  go_wp2_with fail
  refine (c15_odd H.out).mono ?_
  rintro e w' ⟨⟨x, rfl⟩, hB, hF⟩
  exact ⟨rfl, ⟨x, rfl⟩, hB, hF⟩

theorem f14_fault {N : Nat} {a b p q k m st : Int} {inn : Bool} (hq : 1 ≤ q) (hq2 : q ≤ 2) (hs : 0 ≤ st) (hs2 : st ≤ 11) {w : World}
    (h : Calls Try.prog 13 #[.func (.func 15) #[] #[at0 (N + 7), at0 (N + 2), at0 N, at0 (N + 3)]] w fun e w' => e = .returned (.tuple #[.agg #[.int .u8 k, .int .i64 m], .bool inn, .int .i64 0]) ∧ Bx N a b false p q 0 0 false st 0 0 false w' ∧ Fr N w w') :
    Calls Try.prog 14 (caps14 N) w fun e w' => e = .panicked [{ v := .iface 23 (.agg #[.int .u8 q, .int .i64 b]), recovered := false }] ∧ Bx N a b false p q k m inn (st + 100) 0 0 false w' ∧ Fr N w w' := by
  have hmf : ∀ (fn : Fn) (first cap : Array Value) (w : World), (Instr.makeFunc fn first cap).run Try.prog w = .ok (.func fn first cap) w := fun _ _ _ _ => rfl
  have H := Lib.hid h
  clear h
  go_enter Try.func14, Try.ntmps14
  go_wp2_with fail
  refine H.out.mono ?_
  rintro e w1 ⟨rfl, h, hF⟩
  obtain ⟨c0, f0⟩ := cell_one h.xst
  obtain ⟨c1, c2, f1, f2⟩ := cell_two h.xi
  obtain ⟨c3, f3⟩ := cell_one h.xin
  obtain ⟨c4, f4⟩ := cell_one h.xq
  obtain ⟨c5, f5⟩ := cell_one h.xb
  have HB := Lib.hid h
  have hq0 : 0 < q := by omega
  clear h H
  dsimp only
  go_wp2_with fail
  refine (throw_good _ _ hq hq2 _).mono ?_
  rintro e w' ⟨rfl, rfl⟩
  refine ⟨rfl, rfl, ((HB.out.setI _ _).setIn _).setSt _, hF.trans ?_⟩
  exact ((((Fr.refl _ _).set (by omega) (by omega) _).set (by omega) (by omega) _).set (by omega) (by omega) _).set (by omega) (by omega) _

theorem f14_ret {N : Nat} {a b p k m st : Int} {inn : Bool} (hs : 0 ≤ st) (hs2 : st ≤ 11) {w : World}
    (h : Calls Try.prog 13 #[.func (.func 15) #[] #[at0 (N + 7), at0 (N + 2), at0 N, at0 (N + 3)]] w fun e w' => e = .returned (.tuple #[.agg #[.int .u8 k, .int .i64 m], .bool inn, .int .i64 0]) ∧ Bx N a b false p 0 0 0 false st 0 0 false w' ∧ Fr N w w') :
    Calls Try.prog 14 (caps14 N) w fun e w' => e = .returned (.tuple #[]) ∧ Bx N a b false p 0 k m inn (st + 100 + 1000) 0 0 false w' ∧ Fr N w w' := by
  have hmf : ∀ (fn : Fn) (first cap : Array Value) (w : World), (Instr.makeFunc fn first cap).run Try.prog w = .ok (.func fn first cap) w := fun _ _ _ _ => rfl
  have H := Lib.hid h
  clear h
  go_enter Try.func14, Try.ntmps14
  go_wp2_with fail
  refine H.out.mono ?_
  rintro e w1 ⟨rfl, h, hF⟩
  obtain ⟨c0, f0⟩ := cell_one h.xst
  obtain ⟨c1, c2, f1, f2⟩ := cell_two h.xi
  obtain ⟨c3, f3⟩ := cell_one h.xin
  obtain ⟨c4, f4⟩ := cell_one h.xq
  obtain ⟨c5, f5⟩ := cell_one h.xb
  have HB := Lib.hid h
  clear h H
  dsimp only
  go_wp2_with fail
  go_end0
  refine ⟨rfl, ?_, hF.trans ?_⟩
  · exact (((HB.out.setI k m).setIn inn).setSt (st + 100)).setSt (st + 100 + 1000)
  · exact (((((Fr.refl _ _).set (by omega) (by omega) _).set (by omega) (by omega) _).set (by omega) (by omega) _).set (by omega) (by omega) _).set (by omega) (by omega) _

/-- Catch of the middle one. -/
theorem c14_odd {N : Nat} {a b p q : Int} {w : World} (h : Bx N a b true p q 0 0 false 0 0 0 false w) :
    Calls Try.prog 13 #[.func (.func 14) #[] (caps14 N)] w fun e w' => (∃ x, e = .panicked [{ v := .iface 8 x, recovered := false }, { v := .iface 8 x, recovered := true }, { v := .iface 8 x, recovered := true }]) ∧ Bx N a b true p q 0 0 false 1 0 0 false w' ∧ Fr N w w' :=
  catch_calls ent14 fun w0 hb => (f14_odd (h.next hb)).mono fun e w1 ⟨⟨x, he⟩, hB, hF⟩ => by
    subst he
    have hlt := h.lt
    exact ⟨⟨hF.high.size, fun k h1 h2 => hF.high.block k (by omega) h2⟩, _, .other 8 x _ (by decide), fun w2 hb2 => ⟨⟨x, rfl⟩, hB.below (hb2.mono (by omega)), Fr.mid hb hF hb2 (by omega)⟩⟩

theorem c14_fault {N : Nat} {a b p q k m st : Int} {inn : Bool} (hq : 1 ≤ q) (hq2 : q ≤ 2) {w : World} (hN : N + 9 < w.heap.size)
    (h : ∀ w0, Below w.heap.size w w0 → Calls Try.prog 14 (caps14 N) w0 fun e w' => e = .panicked [{ v := .iface 23 (.agg #[.int .u8 q, .int .i64 b]), recovered := false }] ∧ Bx N a b false p q k m inn st 0 0 false w' ∧ Fr N w0 w') :
    Calls Try.prog 13 #[.func (.func 14) #[] (caps14 N)] w fun e w' => e = .returned (.tuple #[.agg #[.int .u8 q, .int .i64 b], .bool true, .int .i64 0]) ∧ Bx N a b false p q k m inn st 0 0 false w' ∧ Fr N w w' :=
  catch_calls ent14 fun w0 hb => (h w0 hb).mono fun e w1 ⟨he, hB, hF⟩ => by
    subst he
    exact ⟨⟨hF.high.size, fun k h1 h2 => hF.high.block k (by omega) h2⟩, _, .fault _ _ [] hq hq2 rfl, fun w2 hb2 => ⟨rfl, hB.below (hb2.mono (by omega)), Fr.mid hb hF hb2 (by omega)⟩⟩

theorem c14_ret {N : Nat} {a b p q k m st : Int} {inn : Bool} {w : World} (hN : N + 9 < w.heap.size)
    (h : ∀ w0, Below w.heap.size w w0 → Calls Try.prog 14 (caps14 N) w0 fun e w' => e = .returned (.tuple #[]) ∧ Bx N a b false p q k m inn st 0 0 false w' ∧ Fr N w0 w') :
    Calls Try.prog 13 #[.func (.func 14) #[] (caps14 N)] w fun e w' => e = .returned (.tuple #[.agg #[.int .u8 0, .int .i64 0], .bool false, .int .i64 0]) ∧ Bx N a b false p q k m inn st 0 0 false w' ∧ Fr N w w' :=
  catch_calls ent14 fun w0 hb => (h w0 hb).mono fun e w1 ⟨he, hB, hF⟩ => by
    subst he
    exact ⟨⟨hF.high.size, fun k h1 h2 => hF.high.block k (by omega) h2⟩, _, .ret, fun w2 hb2 => ⟨rfl, hB.below (hb2.mono (by omega)), Fr.mid hb hF hb2 (by omega)⟩⟩

abbrev caps12 (N : Nat) : Array Value := #[at0 (N + 7), at0 (N + 2), at0 N, at0 (N + 3), at0 (N + 5), at0 (N + 6), at0 (N + 4), at0 (N + 1), at0 (N + 8), at0 (N + 9)]

theorem f12_odd {N : Nat} {a b p q : Int} {w : World} (h : Bx N a b true p q 0 0 false 0 0 0 false w) :
    Calls Try.prog 12 (caps12 N) w fun e w' => (∃ x, e = .panicked [{ v := .iface 8 x, recovered := false }, { v := .iface 8 x, recovered := true }, { v := .iface 8 x, recovered := true }]) ∧ Bx N a b true p q 0 0 false 1 0 0 false w' ∧ Fr N w w' := by
  have hmf : ∀ (fn : Fn) (first cap : Array Value) (w : World), (Instr.makeFunc fn first cap).run Try.prog w = .ok (.func fn first cap) w := fun _ _ _ _ => rfl
  have H := Lib.hid h
  clear h
  go_enter Try.func12, Try.ntmps12
  go_wp2_with fail
  refine (c14_odd H.out).mono ?_
  rintro e w' ⟨⟨x, rfl⟩, hB, hF⟩
  exact ⟨rfl, ⟨x, rfl⟩, hB, hF⟩

theorem f12_ret {N : Nat} {a b p q k m k2 m2 st : Int} {inn out : Bool} {w : World}
    (h : Calls Try.prog 13 #[.func (.func 14) #[] (caps14 N)] w fun e w' => e = .returned (.tuple #[.agg #[.int .u8 k2, .int .i64 m2], .bool out, .int .i64 0]) ∧ Bx N a b false p q k m inn st 0 0 false w' ∧ Fr N w w') :
    Calls Try.prog 12 (caps12 N) w fun e w' => e = .returned (.tuple #[]) ∧ Bx N a b false p q k m inn st k2 m2 out w' ∧ Fr N w w' := by
  have hmf : ∀ (fn : Fn) (first cap : Array Value) (w : World), (Instr.makeFunc fn first cap).run Try.prog w = .ok (.func fn first cap) w := fun _ _ _ _ => rfl
  have H := Lib.hid h
  clear h
  go_enter Try.func12, Try.ntmps12
  go_wp2_with fail
  refine H.out.mono ?_
  rintro e w1 ⟨rfl, h, hF⟩
  obtain ⟨c1, c2, f1, f2⟩ := cell_two h.xo
  obtain ⟨c3, f3⟩ := cell_one h.xout
  have HB := Lib.hid h
  clear h H
  dsimp only
  go_wp2_with fail
  go_end0
  refine ⟨rfl, (HB.out.setO _ _).setOut _, hF.trans ?_⟩
  exact ((((Fr.refl _ _).set (by omega) (by omega) _).set (by omega) (by omega) _).set (by omega) (by omega) _)

/-- outside of the whole: nothing comes out, unless it is odd. -/
theorem o12_odd {N : Nat} {a b p q : Int} {w : World} (h : Bx N a b true p q 0 0 false 0 0 0 false w) :
    Calls Try.prog 11 #[.func (.func 12) #[] (caps12 N)] w fun e w' => (∃ x, e = .returned (.iface 8 x)) ∧ Bx N a b true p q 0 0 false 1 0 0 false w' ∧ Fr N w w' :=
  outside_calls ent12 fun w0 hb => (f12_odd (h.next hb)).mono fun e w1 ⟨⟨x, he⟩, hB, hF⟩ => by
    subst he
    have hlt := h.lt
    exact ⟨⟨hF.high.size, fun k h1 h2 => hF.high.block k (by omega) h2⟩, _, .panic 8 x _ rfl, fun w2 hb2 => ⟨⟨x, rfl⟩, hB.below (hb2.mono (by omega)), Fr.mid hb hF hb2 (by omega)⟩⟩

theorem o12_ret {N : Nat} {a b p q k m k2 m2 st : Int} {inn out : Bool} {w : World} (hN : N + 9 < w.heap.size)
    (h : ∀ w0, Below w.heap.size w w0 → Calls Try.prog 12 (caps12 N) w0 fun e w' => e = .returned (.tuple #[]) ∧ Bx N a b false p q k m inn st k2 m2 out w' ∧ Fr N w0 w') :
    Calls Try.prog 11 #[.func (.func 12) #[] (caps12 N)] w fun e w' => e = .returned .nilIface ∧ Bx N a b false p q k m inn st k2 m2 out w' ∧ Fr N w w' :=
  outside_calls ent12 fun w0 hb => (h w0 hb).mono fun e w1 ⟨he, hB, hF⟩ => by
    subst he
    exact ⟨⟨hF.high.size, fun k h1 h2 => hF.high.block k (by omega) h2⟩, _, .ret, fun w2 hb2 => ⟨rfl, hB.below (hb2.mono (by omega)), Fr.mid hb hF hb2 (by omega)⟩⟩

/-- All of it where no other panic comes: p, q the kinds, or 0. -/
theorem inner_all {N : Nat} {a b p q : Int} (hp : 0 ≤ p) (hp2 : p ≤ 2) (hq : 0 ≤ q) (hq2 : q ≤ 2) {w : World} (h : Bx N a b false p q 0 0 false 0 0 0 false w) :
    Calls Try.prog 11 #[.func (.func 12) #[] (caps12 N)] w fun e w' => e = .returned .nilIface ∧
      Bx N a b false p q (if p = 0 then 0 else p) (if p = 0 then 0 else a) (decide (p ≠ 0)) ((if p = 0 then 11 else 1) + 100 + (if q = 0 then 1000 else 0)) (if q = 0 then 0 else q) (if q = 0 then 0 else b) (decide (q ≠ 0)) w' ∧ Fr N w w' := by
  have hlt := h.lt
  refine o12_ret hlt fun w0 hb0 => f12_ret ?_
  have h0 := h.next hb0
  have hlt0 := h0.lt
  by_cases hp0 : p = 0
  · subst hp0
    by_cases hq0 : q = 0
    · subst hq0
      exact c14_ret hlt0 fun w1 hb1 => f14_ret (by decide) (by decide) (c15_ret (h0.next hb1))
    · have hd : decide (q ≠ 0) = true := by simpa using hq0
      rw [if_neg hq0, if_neg hq0, if_neg hq0, hd]
      exact c14_fault (by omega) hq2 hlt0 fun w1 hb1 => f14_fault (by omega) hq2 (by decide) (by decide) (c15_ret (h0.next hb1))
  · have hdp : decide (p ≠ 0) = true := by simpa using hp0
    rw [if_neg hp0, if_neg hp0, if_neg hp0, hdp]
    by_cases hq0 : q = 0
    · subst hq0
      exact c14_ret hlt0 fun w1 hb1 => f14_ret (by decide) (by decide) (c15_fault (by omega) hp2 (h0.next hb1))
    · have hd : decide (q ≠ 0) = true := by simpa using hq0
      rw [if_neg hq0, if_neg hq0, if_neg hq0, hd]
      exact c14_fault (by omega) hq2 hlt0 fun w1 hb1 => f14_fault (by omega) hq2 (by decide) (by decide) (c15_fault (by omega) hp2 (h0.next hb1))
end Go.Proofs.Ytpjccbbemhjgbaa
