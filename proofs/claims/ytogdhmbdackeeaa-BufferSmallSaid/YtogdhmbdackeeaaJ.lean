import Derived.Test.YtogdhmbdackeeaaI
namespace Go.Proofs.Ytogdhmbdackeeaa
open Go.RowKit
set_option linter.unusedVariables false

/-- The slice v holds the bytes l in a block of its own, from block 'base' on. -/
def Row (w : World) (B : Nat) (v : Value) (l : List Int) : Prop := w.ownsRow B 5 1 v l.length (l.map (.int .u8))
theorem Above.low {B B' : Nat} {w w' : World} (h : Above B w w') (hb : B ≤ B') : Above B' w w' := ⟨h.size, fun k h1 h2 => h.block k (by omega) h2⟩
section
variable {w w' : World} {B : Nat} {v : Value} {l : List Int}
theorem Row.keep (h : Row w B v l) (ha : Above B w w') : Row w' B v l := by
  obtain ⟨h1, h2⟩ := h
  refine ⟨h1, ?_⟩
  rcases h2 with h2 | ⟨g, cap, cur, e, hg, hb, h3⟩
  · exact .inl h2
  · exact .inr ⟨g, cap, cur, e, hg, (ha.block g hg (lt_of_block hb)).trans hb, h3⟩
theorem Row.next (h : Row w B v l) (hb : Below w.heap.size w w') : Row w' B v l := h.keep (babove hb)
theorem Row.low {B' : Nat} (h : Row w B v l) (hb : B' ≤ B) : Row w B' v l := by
  obtain ⟨h1, h2⟩ := h
  refine ⟨h1, ?_⟩
  rcases h2 with h2 | ⟨g, cap, cur, e, hg, h3⟩
  · exact .inl h2
  · exact .inr ⟨g, cap, cur, e, by omega, h3⟩
theorem Row.shape (h : Row w B v l) : ∃ sa cap, v = .slice sa l.length cap ∧ l.length ≤ cap ∧ cap ≤ maxLen ∧ ((sa = none ∧ l.length = 0 ∧ cap = 0) ∨ ∃ g, sa = some ⟨g, 0, none⟩ ∧ B ≤ g ∧ g < w.heap.size) := by
  rcases h.2 with ⟨rfl, h0⟩ | ⟨g, cap, cur, rfl, hg, hb, h3, h4, _⟩
  · exact ⟨none, 0, by rw [h0], by omega, Nat.zero_le _, .inl ⟨rfl, h0, rfl⟩⟩
  · exact ⟨_, cap, rfl, h3, h4, .inr ⟨g, rfl, hg, lt_of_block hb⟩⟩
theorem Row.take {n : Nat} {sa : Option Addr} {cap : Nat} (h : Row w B (.slice sa l.length cap) l) (hn : n ≤ l.length) : Row w B (.slice sa n cap) (l.take n) := by
  have hl : (l.take n).length = n := by simp [hn]
  refine ⟨by simp, ?_⟩
  rcases h.2 with ⟨e, h0⟩ | ⟨g, cap', cur, e, hg, hb, h3, h4, h5, h6⟩
  · obtain ⟨e1, e2, e3⟩ : sa = none ∧ l.length = 0 ∧ cap = 0 := by simpa using e
    exact .inl ⟨by rw [show n = 0 by omega, e1, e3], by rw [hl]; omega⟩
  · obtain ⟨rfl, rfl⟩ : sa = some ⟨g, 0, none⟩ ∧ cap = cap' := by simpa using e
    refine .inr ⟨g, cap, cur, by rw [hl], hg, hb, by omega, h4, h5, ?_⟩
    rw [hl, List.map_take, ← h6, List.take_take, show min n (l.length * 1) = n * 1 by omega]
theorem Row.reads (h : Row w B v l) : Reads w v l := by
  rcases h.2 with ⟨rfl, h0⟩ | ⟨g, cap, cur, rfl, hg, hb, h3, h4, h5, h6⟩
  · exact ⟨none, 0, by rw [h0], fun j hj => by omega⟩
  · refine ⟨_, cap, rfl, fun j hj => ⟨g, 0, rfl, ?_⟩⟩
    have e : (cur.toList.take (l.length * 1))[j]? = (l.map (Value.int .u8))[j]? := by rw [h6]
    simp only [World.cell?, hb, Nat.zero_add]
    rw [List.getElem?_take_of_lt (by omega)] at e
    simpa [rd, hj] using e
end
theorem Reads.take {w : World} {sa : Option Addr} {c n : Nat} {p : List Int} (h : Reads w (.slice sa p.length c) p) (hn : n ≤ p.length) : Reads w (.slice sa n c) (p.take n) := by
  obtain ⟨sa', c', e, hc⟩ := h
  cases e
  refine ⟨sa, c, by simp [hn], fun j hj => ?_⟩
  have hj' : j < n := by simp at hj; omega
  obtain ⟨pb, po, e1, e2⟩ := hc j (by omega)
  refine ⟨pb, po, e1, ?_⟩
  rw [e2]
  simp [rd, List.getElem?_take_of_lt hj']

theorem find_bad {w : World} {b : Nat} {s a fr : Int} {l : List Int} {sa : Option Addr} {m c : Nat} (H : Buf w b s l a) (h : fr < 0 ∨ (l.length : Int) < fr) :
    Calls Try.prog 23 #[at0 b, .slice sa m c, .int .i64 fr] w fun e w' => e = .returned (.int .i64 (-1)) ∧ Below w.heap.size w w' := by
  have HH := Lib.hid (H.alloc (.cells #[.slice sa m c] 23))
  obtain ⟨r, f, h0, h1, h2, h3, h4, h5, h6, h7, h8⟩ := H
  obtain ⟨c0, c1, c2, c3⟩ := (h0.alloc (.cells #[.slice sa m c] 23)).tail
  clear h0 h6
  by_cases hf : fr < 0
  · clear h
    go_enter Try.func23, Try.ntmps23
    go_wp2_with fail
    go_step3
    go_wp2_with (go_at_call 29; refine (bnone HH.out).mono ?_; rintro e w' ⟨rfl, rfl⟩)
    rw [Exit.noGoto_ret]
    go_ret
    exact ⟨rfl, balloc (Below.refl _ _) _⟩
  · have hf2 : (l.length : Int) < fr := by omega
    clear h
    go_enter Try.func23, Try.ntmps23
    go_wp2_with fail
    go_step3
    go_wp2_with (go_at_call 29; refine (bnone HH.out).mono ?_; rintro e w' ⟨rfl, rfl⟩)
    rw [Exit.noGoto_ret]
    go_ret
    exact ⟨rfl, balloc (Below.refl _ _) _⟩

set_option maxHeartbeats 1000000 in
theorem btake {w : World} {b : Nat} {s a : Int} {l : List Int} {n : Nat} (H : Buf w b s l a) (hn : n ≤ l.length) :
    Calls Try.prog 13 #[at0 b, .int .i64 n] w fun e w' => ∃ v, e = .returned (.tuple #[v, part a (a + n), .int .i64 0]) ∧ Row w' w.heap.size v (l.take n) ∧ Buf w' b s (l.drop n) (a + n) ∧ Rg b (b + 1) w w' := by
  have HH := Lib.hid (H.alloc (.cells #[.int .i64 0, .int .i64 0] 31))
  have lb := H.lt
  obtain ⟨h1, h2, h5, h7, h8⟩ := H.size_le
  have hc : ∃ f, (w.alloc (.cells #[.int .i64 0, .int .i64 0] 31)).cell? ⟨b, 258, none⟩ = some (.int .i64 f) ∧ f = l.length := by
    obtain ⟨r, f, h0, _⟩ := HH.out
    exact ⟨_, h0.tail.2.2.1, rfl⟩
  obtain ⟨q, c2, hq⟩ := hc
  subst hq
  clear H
  go_enter Try.func13, Try.ntmps13
  go_wp2_with (go_at_call 29; refine (bnone HH.out).mono ?_; rintro e w' ⟨rfl, rfl⟩)
  refine (bbytes HH.out).mono ?_
  rintro e w1 ⟨v, rfl, hr, hb⟩
  obtain ⟨sa, cap, rfl, k1, k2, hsa⟩ := Row.shape hr
  have HR := Lib.hid (show Row w1 _ _ l from hr)
  have HB := Lib.hid hb
  have H1 := Lib.hid (HH.out.next hb)
  have HN := Lib.hid (carry hb (nw (w := w) (o := .cells #[.int .i64 0, .int .i64 0] 31)))
  clear hr hb c2
  dsimp only
  rcases hsa with ⟨rfl, z1, z2⟩ | ⟨g, rfl, hg, hg2⟩
  · subst z2
    obtain rfl : l = [] := List.length_eq_zero_iff.1 z1
    obtain rfl : n = 0 := by simpa using hn
    go_wp2_with fail
    refine (bdrop H1.out hn).mono ?_
    rintro e w2 ⟨rfl, hb2, hr2⟩
    have X1 := Lib.hid hb2
    have X2 := Lib.hid ((Rg.below (show Below w.heap.size w w1 from (ballo (Below.refl _ _) (Nat.le_refl _) _).trans (HB.out.mono (by simp))) (by omega)).trans hr2)
    have hn2 := hr2.keep (.inr (by omega)) HN.out
    have X3 := Lib.hid hn2
    have X4 := Lib.hid ((HR.out.take hn).keep (Above.low hr2.high (by simp; omega)))
    obtain ⟨d0, d1, f0, f1⟩ := cell_two hn2
    clear hb2 hr2 hn2
    dsimp only
    go_wp2_with fail
    have hE : ((w2.setCell ⟨w.heap.size, 0, none⟩ (.int .i64 a)).setCell ⟨w.heap.size, 1, none⟩ (.int .i64 a)).heap[w.heap.size]? = some (.cells #[.int .i64 a, .int .i64 a] 31) := by
      rw [heap_setCell_at (heap_setCell_at X3.out)]; rfl
    obtain ⟨d4, d5, _, _⟩ := cell_two hE
    refine bodyPost_ret (v := .tuple #[.slice none 0 0, part a (a + ((0 : Nat) : Int)), .int .i64 0]) (by simp [results, Try.results13, go_sem, d4, d5]) rfl ⟨.slice none 0 0, rfl, ?_, ?_, ?_⟩
    · refine (X4.out.keep (w' := _) ?_).low (by simp)
      exact ⟨by simp, fun k h1 h2 => by simp at h1; exact (heap_setCell_ne (by omega)).trans (heap_setCell_ne (by omega))⟩
    · exact (X1.out.set (by omega)).set (by omega)
    · exact (X2.out.setNew (by omega) (Nat.le_refl _) _).setNew (by omega) (Nat.le_refl _) _
  · go_wp2_with fail
    refine (bdrop H1.out hn).mono ?_
    rintro e w2 ⟨rfl, hb2, hr2⟩
    have X1 := Lib.hid hb2
    have X2 := Lib.hid ((Rg.below (show Below w.heap.size w w1 from (ballo (Below.refl _ _) (Nat.le_refl _) _).trans (HB.out.mono (by simp))) (by omega)).trans hr2)
    have hn2 := hr2.keep (.inr (by omega)) HN.out
    have X3 := Lib.hid hn2
    have X4 := Lib.hid ((HR.out.take hn).keep (Above.low hr2.high (by simp; omega)))
    obtain ⟨d0, d1, f0, f1⟩ := cell_two hn2
    clear hb2 hr2 hn2
    dsimp only
    go_wp2_with fail
    have hE : ((w2.setCell ⟨w.heap.size, 0, none⟩ (.int .i64 a)).setCell ⟨w.heap.size, 1, none⟩ (.int .i64 (a + n))).heap[w.heap.size]? = some (.cells #[.int .i64 a, .int .i64 (a + n)] 31) := by
      rw [heap_setCell_at (heap_setCell_at X3.out)]; rfl
    obtain ⟨d4, d5, _, _⟩ := cell_two hE
    refine bodyPost_ret (v := .tuple #[.slice (some ⟨g, 0, none⟩) n cap, part a (a + n), .int .i64 0]) (by simp [results, Try.results13, go_sem, d4, d5]) rfl ⟨.slice (some ⟨g, 0, none⟩) n cap, rfl, ?_, ?_, ?_⟩
    · refine (X4.out.keep (w' := _) ?_).low (by simp)
      exact ⟨by simp, fun k h1 h2 => by simp at h1; exact (heap_setCell_ne (by omega)).trans (heap_setCell_ne (by omega))⟩
    · exact (X1.out.set (by omega)).set (by omega)
    · exact (X2.out.setNew (by omega) (Nat.le_refl _) _).setNew (by omega) (Nat.le_refl _) _
end Go.Proofs.Ytogdhmbdackeeaa
