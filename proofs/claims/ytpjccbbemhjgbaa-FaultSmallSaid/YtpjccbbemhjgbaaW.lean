import Derived.Test.YtpjccbbemhjgbaaT
namespace Go.Proofs.Ytpjccbbemhjgbaa
open Go.RowKit
set_option linter.unusedVariables false

theorem run_ok (f : Int) (f0 : 0 ≤ f) (f1 : f ≤ 1048576) : ∀ (xs : List Stp) (l u d : Int), 0 ≤ l → l ≤ 1048576 → 0 ≤ u → 0 ≤ d →
    0 ≤ (run f l u d xs).1 ∧ (run f l u d xs).1 ≤ 1048576 ∧ 0 ≤ (run f l u d xs).2.1 ∧ (run f l u d xs).2.1 ≤ u + 1048576 * xs.length ∧ 0 ≤ (run f l u d xs).2.2.1 ∧ (run f l u d xs).2.2.1 ≤ d + xs.length ∧
    (((run f l u d xs).2.2.2.1 = 0 ∧ (run f l u d xs).2.2.2.2 = 0) ∨ (1 ≤ (run f l u d xs).2.2.2.1 ∧ (run f l u d xs).2.2.2.1 ≤ 2) ∨ ((run f l u d xs).2.2.2.1 = 9 ∧ (run f l u d xs).2.2.2.2 = 0))
  | [], l, u, d, h1, h2, h3, h4 => by simp [run]; omega
  | (k, n, m) :: t, l, u, d, h1, h2, h3, h4 => by
    have IH := run_ok f f0 f1 t
    rw [List.length_cons]
    unfold run
    split
    · split
      · dsimp only; omega
      · split
        · have := IH (l - n) (u + n) (d + 1) (by omega) (by omega) (by omega) (by omega); omega
        · have := IH l u (d + 1) h1 h2 h3 (by omega); omega
    · split
      · have := IH f u (d + 1) f0 f1 h3 (by omega); omega
      · split
        · split
          · dsimp only; omega
          · have := IH l u (d + 1) h1 h2 h3 (by omega); omega
        · split
          · split
            · dsimp only; omega
            · dsimp only; omega
          · split
            · dsimp only; omega
            · have := IH l u (d + 1) h1 h2 h3 (by omega); omega

/-! ## own, step by step -/
def Zs (xs : List Stp) (k : Nat) : List Stp := (xs.take k).map conv ++ (xs.drop k).map conv0
theorem Zs_length (xs : List Stp) (k : Nat) : (Zs xs k).length = xs.length := by simp [Zs]; omega
theorem Zs_zero (xs : List Stp) : Zs xs 0 = xs.map conv0 := by simp [Zs]
theorem Zs_end (xs : List Stp) : Zs xs xs.length = xs.map conv := by simp [Zs]
theorem Zs_get {xs : List Stp} {k : Nat} {x : Stp} (h : xs[k]? = some x) : (Zs xs k)[k]? = some (conv0 x) := by
  have hk : k < xs.length := (List.getElem?_eq_some_iff.1 h).1
  unfold Zs
  rw [List.getElem?_append_right (by simp; omega)]
  simp [Nat.min_eq_left (Nat.le_of_lt hk), h]
theorem Zs_succ {xs : List Stp} {k : Nat} {x : Stp} (h : xs[k]? = some x) : Zs xs (k + 1) = (xs.take k).map conv ++ conv x :: (xs.drop (k + 1)).map conv0 := by
  unfold Zs
  rw [List.take_add_one, h]; simp
theorem Zs_cons {xs : List Stp} {k : Nat} {x : Stp} (h : xs[k]? = some x) : Zs xs k = (xs.take k).map conv ++ conv0 x :: (xs.drop (k + 1)).map conv0 := by
  have hk : k < xs.length := (List.getElem?_eq_some_iff.1 h).1
  unfold Zs
  rw [List.drop_eq_getElem_cons hk]
  simp [List.getElem?_eq_getElem hk] at h
  rw [h]; simp
theorem Zs_set {xs : List Stp} {k : Nat} {x : Stp} (h : xs[k]? = some x) : Zs xs (k + 1) = (Zs xs k).set k (conv x) := by
  have hk : k < xs.length := (List.getElem?_eq_some_iff.1 h).1
  rw [Zs_succ h, Zs_cons h, List.set_append_right _ _ (by simp; omega)]
  simp [Nat.min_eq_left (Nat.le_of_lt hk)]
theorem Zs_same {xs : List Stp} {k : Nat} {x : Stp} (h : xs[k]? = some x) (he : conv x = conv0 x) : Zs xs (k + 1) = Zs xs k := by rw [Zs_succ h, Zs_cons h, he]

theorem flat_set {ys : List Stp} {k : Nat} {a b c b' : Int} (h : ys[k]? = some (a, b, c)) : (ys.set k (a, b', c)).flatMap cell3 = (ys.flatMap cell3).set (k * 3 + 1) (.int .i64 b') := by
  induction ys generalizing k with
  | nil => simp at h
  | cons y ys ih =>
    cases k with
    | zero =>
      obtain rfl : y = (a, b, c) := by simpa using h
      simp [cell3]
    | succ k =>
      have := ih (k := k) (by simpa using h)
      rw [List.set_cons_succ, List.flatMap_cons, List.flatMap_cons, this, List.set_append_right _ _ (by simp [cell3]; omega)]
      congr 2
      simp [cell3]; omega

theorem OwnS.shape {w : World} {B : Nat} {v : Value} {ys : List Stp} (h : OwnS w B v ys) : (v = .slice none 0 0 ∧ ys = []) ∨ ∃ g cap cur, v = .slice (some ⟨g, 0, none⟩) ys.length cap ∧ B ≤ g ∧ w.heap[g]? = some (.cells cur 79 (0, 0)) ∧ ys.length ≤ cap ∧
    (∀ j x, ys[j]? = some x → cur[j * 3]? = some (.int .u8 x.1) ∧ cur[j * 3 + 1]? = some (.int .i64 x.2.1) ∧ cur[j * 3 + 2]? = some (.int .i64 x.2.2)) := by
  rcases h.2 with ⟨rfl, h0⟩ | ⟨g, cap, cur, rfl, hg, hb, h3, h4, h5, h6⟩
  · exact .inl ⟨rfl, List.length_eq_zero_iff.1 h0⟩
  · refine .inr ⟨g, cap, cur, rfl, hg, hb, h3, fun j x hj => ?_⟩
    have hjl : j < ys.length := (List.getElem?_eq_some_iff.1 hj).1
    obtain ⟨a, b, c⟩ := cells3_at ys j x hj
    rw [← h6] at a b c
    rw [List.getElem?_take_of_lt (by omega)] at a b c
    rw [Array.getElem?_toList] at a b c
    exact ⟨a, b, c⟩
theorem OwnS.reads {w : World} {B : Nat} {v : Value} {ys : List Stp} (h : OwnS w B v ys) : Reads3 w v ys := by
  rcases h.shape with ⟨rfl, rfl⟩ | ⟨g, cap, cur, rfl, hg, hb, _, hc⟩
  · exact ⟨none, 0, rfl, fun j x hj => by simp at hj⟩
  · refine ⟨_, cap, rfl, fun j x hj => ⟨g, 0, rfl, ?_⟩⟩
    obtain ⟨a, b, c⟩ := hc j x hj
    simp only [World.cell?, hb, Nat.zero_add]
    exact ⟨a, b, c⟩
theorem OwnS.set {w : World} {B : Nat} {g n cap : Nat} {ys : List Stp} {k : Nat} {a b c b' : Int} (h : OwnS w B (.slice (some ⟨g, 0, none⟩) n cap) ys) (hk : ys[k]? = some (a, b, c)) :
    OwnS (w.setCell ⟨g, k * 3 + 1, none⟩ (.int .i64 b')) B (.slice (some ⟨g, 0, none⟩) n cap) (ys.set k (a, b', c)) := by
  have hkl : k < ys.length := (List.getElem?_eq_some_iff.1 hk).1
  rcases h.2 with ⟨e, _⟩ | ⟨g', cap', cur, e, hg, hb, h3, h4, h5, h6⟩
  · cases e
  · simp only [Value.slice.injEq, Option.some.injEq, Addr.mk.injEq, and_true] at e
    obtain ⟨rfl, rfl, rfl⟩ := e
    refine ⟨by rw [cells3_length], .inr ⟨g, cap, _, by rw [List.length_set], hg, heap_setCell_at hb, by rw [List.length_set]; exact h3, h4, by simpa using h5, ?_⟩⟩
    rw [List.length_set, flat_set hk, ← h6, Array.toList_setIfInBounds, List.take_set]
theorem OwnS.keep {w w' : World} {B : Nat} {v : Value} {ys : List Stp} (h : OwnS w B v ys) (hb : Below w.heap.size w w') : OwnS w' B v ys := by
  refine ⟨h.1, ?_⟩
  rcases h.2 with h2 | ⟨g, cap, cur, e, hg, hh, rest⟩
  · exact .inl h2
  · exact .inr ⟨g, cap, cur, e, hg, carry hb hh, rest⟩
end Go.Proofs.Ytpjccbbemhjgbaa
