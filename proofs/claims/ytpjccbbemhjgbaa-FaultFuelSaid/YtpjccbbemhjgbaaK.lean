import Derived.Test.YtpjccbbemhjgbaaG
namespace Go.Proofs.Ytpjccbbemhjgbaa
open Go.RowKit
set_option linter.unusedVariables false

/-- Nothing below lo and nothing from hi on turns. -/
structure Rg (lo hi : Nat) (w w' : World) : Prop where
  low : Below lo w w'
  high : Above hi w w'
theorem Rg.refl (lo hi : Nat) (w : World) : Rg lo hi w w := ⟨Below.refl _ _, Nat.le_refl _, fun _ _ _ => rfl⟩
theorem Rg.trans {lo hi : Nat} {a b c : World} (h : Rg lo hi a b) (k : Rg lo hi b c) : Rg lo hi a c :=
  ⟨h.low.trans k.low, Nat.le_trans h.high.size k.high.size, fun i h1 h2 => (k.high.block i h1 (Nat.lt_of_lt_of_le h2 h.high.size)).trans (h.high.block i h1 h2)⟩
theorem Rg.set {lo hi : Nat} {a w : World} (h : Rg lo hi a w) {b off : Nat} (h1 : lo ≤ b) (h2 : b < hi) (v : Value) : Rg lo hi a (w.setCell ⟨b, off, none⟩ v) :=
  ⟨bset h.low h1 _, by simpa using h.high.size, fun i h3 h4 => (heap_setCell_ne (by omega)).trans (h.high.block i h3 h4)⟩
theorem Rg.below {lo hi : Nat} {w w' : World} (h : Below w.heap.size w w') (hN : lo ≤ w.heap.size) : Rg lo hi w w' := ⟨h.mono hN, babove h⟩
theorem Rg.next {lo hi : Nat} {a w w' : World} (h : Rg lo hi a w) (h2 : Below w.heap.size w w') (hN : lo ≤ a.heap.size) : Rg lo hi a w' := h.trans (Rg.below h2 (Nat.le_trans hN h.high.size))
theorem Rg.mid {lo hi : Nat} {w w0 w1 w2 : World} (h0 : Below w.heap.size w w0) (h1 : Rg lo hi w0 w1) (h2 : Below w.heap.size w1 w2) (hN : lo ≤ w.heap.size) : Rg lo hi w w2 :=
  ⟨((h0.mono hN).trans h1.low).trans (h2.mono hN), by have := h0.size; have := h1.high.size; have := h2.size; omega, fun k a b => by
    rw [h2.block k b, h1.high.block k a (Nat.lt_of_lt_of_le b h0.size), h0.block k b]⟩
theorem Rg.keep {lo hi k : Nat} {w w' : World} {o : Obj} (h : Rg lo hi w w') (hk : k < lo ∨ hi ≤ k) (ho : w.heap[k]? = some o) : w'.heap[k]? = some o := by
  rcases hk with hk | hk
  · exact (h.low.block k hk).trans ho
  · exact (h.high.block k hk (lt_of_block ho)).trans ho
theorem nwk' {w : World} {o : Obj} {k : Nat} (h : w.heap.size = k) : (w.alloc o).heap[k]? = some o := by subst h; exact nw

theorem ent19 : Ent 19 := fun _ _ => by kernel_rfl
theorem ent21 : Ent 21 := fun _ _ => by kernel_rfl
theorem ent23 : Ent 23 := fun _ _ => by kernel_rfl

theorem f19_ret (p q r : Nat) (s : ByteArray) (m : Int) (w : World) (hp : w.heap[p]? = some (.cells #[.int .u8 0] 5)) (hq : w.heap[q]? = some (.cells #[.int .i64 m] 3)) (hr : w.heap[r]? = some (.cells #[.string s] 9)) :
    Calls Try.prog 19 #[.pointer (some ⟨p, 0, none⟩), .pointer (some ⟨q, 0, none⟩), .pointer (some ⟨r, 0, none⟩)] w fun e w' => e = .returned (.string s) ∧ w = w' := by
  obtain ⟨c0, f0⟩ := cell_one hp
  obtain ⟨c1, f1⟩ := cell_one hq
  obtain ⟨c2, f2⟩ := cell_one hr
  clear hp hq hr
  go_enter Try.func19, Try.ntmps19
  go_wp2_with fail
  go_ret
  exact ⟨rfl, rfl⟩

theorem f19_throws (p q r : Nat) (s : ByteArray) (k m : Int) (hk : 1 ≤ k) (hk2 : k ≤ 2) (w : World) (hp : w.heap[p]? = some (.cells #[.int .u8 k] 5)) (hq : w.heap[q]? = some (.cells #[.int .i64 m] 3)) (hr : w.heap[r]? = some (.cells #[.string s] 9)) :
    Calls Try.prog 19 #[.pointer (some ⟨p, 0, none⟩), .pointer (some ⟨q, 0, none⟩), .pointer (some ⟨r, 0, none⟩)] w fun e w' => e = .panicked [{ v := .iface 23 (.agg #[.int .u8 k, .int .i64 m]), recovered := false }] ∧ w = w' := by
  obtain ⟨c0, f0⟩ := cell_one hp
  obtain ⟨c1, f1⟩ := cell_one hq
  obtain ⟨c2, f2⟩ := cell_one hr
  have hk0 : 0 < k := by omega
  clear hp hq hr
  go_enter Try.func19, Try.ntmps19
  go_wp2_with (go_at_call 17; refine (throw_good _ _ hk hk2 _).mono ?_; rintro e w' ⟨rfl, rfl⟩)
  exact ⟨rfl, rfl, rfl⟩

theorem f23_does (p r : Nat) (s : ByteArray) (hs : s.size ≤ 140737488355327) (k m : Int) (w : World) (hp : w.heap[p]? = some (.cells #[.int .u8 0, .int .i64 0] 23)) (hr : w.heap[r]? = some (.cells #[.string s] 9)) :
    Calls Try.prog 23 #[.agg #[.int .u8 k, .int .i64 m], .pointer (some ⟨p, 0, none⟩), .pointer (some ⟨r, 0, none⟩)] w fun e w' => e = .returned (.string (s ++ ⟨#[33]⟩)) ∧
      w'.heap[p]? = some (.cells #[.int .u8 k, .int .i64 m] 23) ∧ Rg p (p + 1) w w' := by
  obtain ⟨c0, c1, f0, f1⟩ := cell_two hp
  obtain ⟨c2, f2⟩ := cell_one hr
  have l0 := lt_of_block hp
  have l1 := lt_of_block hr
  have ca := fun o off => cell_alloc_lt (o := o) (off := off) l0
  have ca' := fun o off => cell_alloc_lt (o := o) (off := off) l1
  have fa := fun o off => frozen_alloc_lt (o := o) (off := off) l0
  have HP := Lib.hid hp; have HR := Lib.hid hr
  have hne : r ≠ p := by rintro rfl; rw [hr] at hp; simp at hp
  clear hp hr
  go_enter Try.func23, Try.ntmps23
  go_wp2_with fail
  go_ret
  refine ⟨rfl, ?_, ?_⟩
  · rw [heap_alloc_lt (by simpa using l0), heap_setCell_at (heap_setCell_at HP.out)]; rfl
  · exact (((Rg.refl _ _ _).set (Nat.le_refl _) (by omega) _).set (Nat.le_refl _) (by omega) _).next (ballo (Below.refl _ _) (Nat.le_refl _) _) (by omega)

/-- The variables of FaultTry that its first closure and the test use: s, much, p, k, f. -/
structure Tb (N : Nat) (s : ByteArray) (m p k : Int) (w : World) : Prop where
  xs : w.heap[N]? = some (.cells #[.string s] 9)
  xm : w.heap[N + 1]? = some (.cells #[.int .i64 m] 3)
  xp : w.heap[N + 2]? = some (.cells #[.int .u8 p] 5)
  xk : w.heap[N + 3]? = some (.cells #[.int .u8 k] 5)
  xf : w.heap[N + 4]? = some (.cells #[.func (.func 19) #[] #[.pointer (some ⟨N + 2, 0, none⟩), .pointer (some ⟨N + 1, 0, none⟩), .pointer (some ⟨N, 0, none⟩)]] 35)
theorem Tb.next {N : Nat} {s : ByteArray} {m p k : Int} {w w' : World} (h : Tb N s m p k w) (hb : Below w.heap.size w w') : Tb N s m p k w' :=
  ⟨carry hb h.xs, carry hb h.xm, carry hb h.xp, carry hb h.xk, carry hb h.xf⟩
theorem Tb.keep {N lo hi : Nat} {s : ByteArray} {m p k : Int} {w w' : World} (h : Tb N s m p k w) (hN : N + 4 < lo) (hb : Rg lo hi w w') : Tb N s m p k w' :=
  ⟨hb.keep (.inl (by omega)) h.xs, hb.keep (.inl (by omega)) h.xm, hb.keep (.inl (by omega)) h.xp, hb.keep (.inl (by omega)) h.xk, hb.keep (.inl (by omega)) h.xf⟩

/-- got, seen, h. -/
structure Tc (G : Nat) (g : ByteArray) (a b : Int) (w : World) : Prop where
  xg : w.heap[G]? = some (.cells #[.string g] 9)
  xs : w.heap[G + 1]? = some (.cells #[.int .u8 a, .int .i64 b] 23)
  xh : w.heap[G + 2]? = some (.cells #[.int .i64 0] 25)
theorem Tc.next {G : Nat} {g : ByteArray} {a b : Int} {w w' : World} (h : Tc G g a b w) (hb : Below w.heap.size w w') : Tc G g a b w' :=
  ⟨carry hb h.xg, carry hb h.xs, carry hb h.xh⟩
theorem Tc.below {G : Nat} {g : ByteArray} {a b : Int} {w w' : World} (h : Tc G g a b w) {B : Nat} (hG : G + 2 < B) (hb : Below B w w') : Tc G g a b w' :=
  ⟨(hb.block _ (by omega)).trans h.xg, (hb.block _ (by omega)).trans h.xs, (hb.block _ (by omega)).trans h.xh⟩

abbrev caps19 (N : Nat) : Array Value := #[.pointer (some ⟨N + 2, 0, none⟩), .pointer (some ⟨N + 1, 0, none⟩), .pointer (some ⟨N, 0, none⟩)]
abbrev caps21 (N G : Nat) : Array Value := #[.pointer (some ⟨N + 4, 0, none⟩), .pointer (some ⟨N + 3, 0, none⟩), .pointer (some ⟨G + 1, 0, none⟩), .pointer (some ⟨N, 0, none⟩), .pointer (some ⟨G, 0, none⟩), .pointer (some ⟨G + 2, 0, none⟩)]
abbrev empty : ByteArray := ⟨#[]⟩

/-- What Or does in FaultTry. -/
theorem or_ret {N G : Nat} (hG : N + 4 < G) {s : ByteArray} {m k : Int} (hk : 1 ≤ k) (hk2 : k ≤ 2) {w : World} (h : Tb N s m 0 k w) (hc : Tc G empty 0 0 w) :
    Calls Try.prog 22 #[.func (.func 19) #[] (caps19 N), .int .u8 k, .func (.func 23) #[] #[.pointer (some ⟨G + 1, 0, none⟩), .pointer (some ⟨N, 0, none⟩)]] w fun e w' =>
      e = .returned (.tuple #[.string s, .int .i64 0]) ∧ Tc G empty 0 0 w' ∧ Rg (G + 1) (G + 2) w w' :=
  or_string ent19 ent23 k hk hk2 fun w0 hb => (f19_ret _ _ _ s m w0 (h.next hb).xp (h.next hb).xm (h.next hb).xs).mono (by
    rintro e w1 ⟨rfl, rfl⟩
    have hlt := lt_of_block hc.xh
    exact ⟨babove (Below.refl _ _), fun v hv => ⟨s, by cases hv; rfl⟩, .ret _ fun w3 hb3 => ⟨rfl, hc.next (hb.trans hb3), Rg.below (hb.trans hb3) (by omega)⟩⟩)

theorem or_same {N G : Nat} (hG : N + 4 < G) {s : ByteArray} (hs : s.size ≤ 140737488355327) {m k : Int} (hk : 1 ≤ k) (hk2 : k ≤ 2) {w : World} (h : Tb N s m k k w) (hc : Tc G empty 0 0 w) :
    Calls Try.prog 22 #[.func (.func 19) #[] (caps19 N), .int .u8 k, .func (.func 23) #[] #[.pointer (some ⟨G + 1, 0, none⟩), .pointer (some ⟨N, 0, none⟩)]] w fun e w' =>
      e = .returned (.tuple #[.string (s ++ ⟨#[33]⟩), .int .i64 0]) ∧ Tc G empty k m w' ∧ Rg (G + 1) (G + 2) w w' :=
  or_string ent19 ent23 k hk hk2 fun w0 hb => (f19_throws _ _ _ s k m hk hk2 w0 (h.next hb).xp (h.next hb).xm (h.next hb).xs).mono (by
    rintro e w1 ⟨rfl, rfl⟩
    have hlt := lt_of_block hc.xh
    refine ⟨babove (Below.refl _ _), fun v hv => (by cases hv), .same m [] rfl fun w3 hb3 => ?_⟩
    refine (f23_does (G + 1) N s hs k m w3 (hc.next (hb.trans hb3)).xs (h.next (hb.trans hb3)).xs).mono ?_
    rintro e w4 ⟨rfl, h4, hr⟩
    have hb' := hb.trans hb3
    refine ⟨rfl, ⟨hr.keep (.inl (by omega)) (carry hb' hc.xg), h4, hr.keep (.inr (by omega)) (carry hb' hc.xh)⟩, (Rg.below hb' (by omega)).trans hr⟩)

theorem or_diff {N G : Nat} (hG : N + 4 < G) {s : ByteArray} {m p k : Int} (hk : 1 ≤ k) (hk2 : k ≤ 2) (hp : 1 ≤ p) (hp2 : p ≤ 2) (hne : p ≠ k) {w : World} (h : Tb N s m p k w) (hc : Tc G empty 0 0 w) :
    Calls Try.prog 22 #[.func (.func 19) #[] (caps19 N), .int .u8 k, .func (.func 23) #[] #[.pointer (some ⟨G + 1, 0, none⟩), .pointer (some ⟨N, 0, none⟩)]] w fun e w' =>
      e = .panicked [{ v := .iface 23 (.agg #[.int .u8 p, .int .i64 m]), recovered := false }] ∧ Tc G empty 0 0 w' ∧ Rg (G + 1) (G + 2) w w' :=
  or_string ent19 ent23 k hk hk2 fun w0 hb => (f19_throws _ _ _ s p m hp hp2 w0 (h.next hb).xp (h.next hb).xm (h.next hb).xs).mono (by
    rintro e w1 ⟨rfl, rfl⟩
    have hlt := lt_of_block hc.xh
    exact ⟨babove (Below.refl _ _), fun v hv => (by cases hv), .diff p m [] hp hp2 hne rfl fun w3 hb3 => ⟨rfl, hc.next (hb.trans hb3), Rg.below (hb.trans hb3) (by omega)⟩⟩)

theorem f21_ret {N G : Nat} (hG : N + 4 < G) {s g : ByteArray} {m p k a b : Int} {w : World} (h : Tb N s m p k w) (hc : Tc G empty 0 0 w)
    (hor : Calls Try.prog 22 #[.func (.func 19) #[] (caps19 N), .int .u8 k, .func (.func 23) #[] #[.pointer (some ⟨G + 1, 0, none⟩), .pointer (some ⟨N, 0, none⟩)]] w fun e w' =>
      e = .returned (.tuple #[.string g, .int .i64 0]) ∧ Tc G empty a b w' ∧ Rg (G + 1) (G + 2) w w') :
    Calls Try.prog 21 (caps21 N G) w fun e w' => e = .returned (.tuple #[]) ∧ Tc G g a b w' ∧ Rg G (G + 3) w w' := by
  have hmf : ∀ (fn : Fn) (first cap : Array Value) (w : World), (Instr.makeFunc fn first cap).run Try.prog w = .ok (.func fn first cap) w := fun _ _ _ _ => rfl
  obtain ⟨c0, f0⟩ := cell_one h.xf
  obtain ⟨c1, f1⟩ := cell_one h.xk
  have HO := Lib.hid hor
  clear hor h hc
  go_enter Try.func21, Try.ntmps21
  go_wp2_with fail
  refine HO.out.mono ?_
  rintro e w1 ⟨rfl, hc, hr⟩
  obtain ⟨d0, g0⟩ := cell_one hc.xg
  obtain ⟨d1, g1⟩ := cell_one hc.xh
  have HC := Lib.hid hc
  have HR := Lib.hid hr
  clear hc hr HO
  dsimp only
  go_wp2_with fail
  go_end0
  have hc := HC.out
  have hr := HR.out
  refine ⟨rfl, ⟨?_, ?_, ?_⟩, ?_⟩
  · rw [heap_setCell_ne (by omega), heap_setCell_at hc.xg]; rfl
  · rw [heap_setCell_ne (by omega), heap_setCell_ne (by omega)]; exact hc.xs
  · rw [heap_setCell_at ((heap_setCell_ne (by omega)).trans hc.xh)]; rfl
  · exact ((Rg.trans ⟨hr.low.mono (by omega), hr.high.size, fun k h1 h2 => hr.high.block k (by omega) h2⟩ (Rg.refl _ _ _)).set (Nat.le_refl _) (by omega) _).set (by omega) (by omega) _

theorem f21_throws {N G : Nat} (hG : N + 4 < G) {s : ByteArray} {m p k a b : Int} {w : World} (h : Tb N s m p k w) (hc : Tc G empty 0 0 w)
    (hor : Calls Try.prog 22 #[.func (.func 19) #[] (caps19 N), .int .u8 k, .func (.func 23) #[] #[.pointer (some ⟨G + 1, 0, none⟩), .pointer (some ⟨N, 0, none⟩)]] w fun e w' =>
      e = .panicked [{ v := .iface 23 (.agg #[.int .u8 a, .int .i64 b]), recovered := false }] ∧ Tc G empty 0 0 w' ∧ Rg (G + 1) (G + 2) w w') :
    Calls Try.prog 21 (caps21 N G) w fun e w' => e = .panicked [{ v := .iface 23 (.agg #[.int .u8 a, .int .i64 b]), recovered := false }] ∧ Tc G empty 0 0 w' ∧ Rg G (G + 3) w w' := by
  have hmf : ∀ (fn : Fn) (first cap : Array Value) (w : World), (Instr.makeFunc fn first cap).run Try.prog w = .ok (.func fn first cap) w := fun _ _ _ _ => rfl
  obtain ⟨c0, f0⟩ := cell_one h.xf
  obtain ⟨c1, f1⟩ := cell_one h.xk
  have HO := Lib.hid hor
  clear hor h hc
  go_enter Try.func21, Try.ntmps21
  go_wp2_with fail
  refine HO.out.mono ?_
  rintro e w1 ⟨rfl, hc, hr⟩
  exact ⟨rfl, rfl, hc, ⟨hr.low.mono (by omega), hr.high.size, fun k h1 h2 => hr.high.block k (by omega) h2⟩⟩

/-- Catch of it. -/
theorem c21_ret {N G : Nat} {g : ByteArray} {a b : Int} {w : World} (hG : G + 2 < w.heap.size)
    (h : ∀ w0, Below w.heap.size w w0 → Calls Try.prog 21 (caps21 N G) w0 fun e w' => e = .returned (.tuple #[]) ∧ Tc G g a b w' ∧ Rg G (G + 3) w0 w') :
    Calls Try.prog 13 #[.func (.func 21) #[] (caps21 N G)] w fun e w' => e = .returned (.tuple #[.agg #[.int .u8 0, .int .i64 0], .bool false, .int .i64 0]) ∧ Tc G g a b w' ∧ Rg G (G + 3) w w' :=
  catch_calls ent21 fun w0 hb => (h w0 hb).mono fun e w1 ⟨he, hB, hF⟩ => by
    subst he
    exact ⟨⟨hF.high.size, fun k h1 h2 => hF.high.block k (by omega) h2⟩, _, .ret, fun w2 hb2 => ⟨rfl, hB.below hG hb2, Rg.mid hb hF hb2 (by omega)⟩⟩

theorem c21_fault {N G : Nat} {a b : Int} (ha : 1 ≤ a) (ha2 : a ≤ 2) {w : World} (hG : G + 2 < w.heap.size)
    (h : ∀ w0, Below w.heap.size w w0 → Calls Try.prog 21 (caps21 N G) w0 fun e w' => e = .panicked [{ v := .iface 23 (.agg #[.int .u8 a, .int .i64 b]), recovered := false }] ∧ Tc G empty 0 0 w' ∧ Rg G (G + 3) w0 w') :
    Calls Try.prog 13 #[.func (.func 21) #[] (caps21 N G)] w fun e w' => e = .returned (.tuple #[.agg #[.int .u8 a, .int .i64 b], .bool true, .int .i64 0]) ∧ Tc G empty 0 0 w' ∧ Rg G (G + 3) w w' :=
  catch_calls ent21 fun w0 hb => (h w0 hb).mono fun e w1 ⟨he, hB, hF⟩ => by
    subst he
    exact ⟨⟨hF.high.size, fun k h1 h2 => hF.high.block k (by omega) h2⟩, _, .fault _ _ [] ha ha2 rfl, fun w2 hb2 => ⟨rfl, hB.below hG hb2, Rg.mid hb hF hb2 (by omega)⟩⟩
end Go.Proofs.Ytpjccbbemhjgbaa
