import Derived.Test.YtogdhmbdackeeaaTh
import Derived.Test.YtogdhmbdackeeaaUa
import Derived.IntWalk
import Derived.OwnWalk
namespace Go.Proofs.Ytogdhmbdackeeaa
open Go.RowKit
set_option linter.unusedVariables false

/-! ## Acts that the law itself makes -/
abbrev Act4 := Int × Int × Int × Value
def cell4 (x : Act4) : List Value := [.int .u8 x.1, .int .u8 x.2.1, .int .i64 x.2.2.1, x.2.2.2]
def GoodA (M : Nat) (w : World) (x : Act4) : Prop :=
  0 ≤ x.1 ∧ x.1 ≤ 255 ∧ 0 ≤ x.2.1 ∧ x.2.1 ≤ 255 ∧ ∃ p, Reads w x.2.2.2 p ∧ (∀ n c, x.2.2.2 = .slice none n c → x.2.2.2 = .slice none 0 0 ∧ p = []) ∧ p.length ≤ M ∧ Bytes p
theorem GoodA.next {M : Nat} {w w' : World} {x : Act4} (h : GoodA M w x) (hb : Below w.heap.size w w') : GoodA M w' x := by
  obtain ⟨h1, h2, h3, h4, p, h5, h6⟩ := h
  exact ⟨h1, h2, h3, h4, p, h5.next hb, h6⟩
theorem good_nil {M : Nat} {w : World} {k c N : Int} (h1 : 0 ≤ k) (h2 : k ≤ 255) (h3 : 0 ≤ c) (h4 : c ≤ 255) : GoodA M w (k, c, N, .slice none 0 0) :=
  ⟨h1, h2, h3, h4, [], reads_nil, fun n c _ => ⟨rfl, rfl⟩, Nat.zero_le _, fun x hx => by simp at hx⟩
theorem cells4_at (l : List Act4) (j : Nat) (x : Act4) (h : l[j]? = some x) : (l.flatMap cell4)[j * 4]? = some (.int .u8 x.1) ∧ (l.flatMap cell4)[j * 4 + 1]? = some (.int .u8 x.2.1) ∧ (l.flatMap cell4)[j * 4 + 2]? = some (.int .i64 x.2.2.1) ∧ (l.flatMap cell4)[j * 4 + 3]? = some x.2.2.2 := by
  induction l generalizing j with
  | nil => simp at h
  | cons y l ih =>
    cases j with
    | zero =>
      obtain rfl : y = x := by simpa using h
      exact ⟨rfl, rfl, rfl, rfl⟩
    | succ j =>
      have := ih j (by simpa using h)
      rw [List.flatMap_cons]
      have e : (j + 1) * 4 = (cell4 y).length + j * 4 := by simp [cell4]; omega
      rw [show (j + 1) * 4 + 1 = (cell4 y).length + (j * 4 + 1) by simp [cell4]; omega, show (j + 1) * 4 + 2 = (cell4 y).length + (j * 4 + 2) by simp [cell4]; omega, show (j + 1) * 4 + 3 = (cell4 y).length + (j * 4 + 3) by simp [cell4]; omega, e]
      refine ⟨?_, ?_, ?_, ?_⟩ <;> rw [List.getElem?_append_right (by omega), Nat.add_sub_cancel_left]
      · exact this.1
      · exact this.2.1
      · exact this.2.2.1
      · exact this.2.2.2
theorem acts_of_block {M : Nat} {w : World} {b cap : Nat} {L : List Act4} {cur : Array Value} (h : w.heap[b]? = some (.cells cur 57 (0, 0))) (hc : ∀ (i : Nat) (u : Value), (L.flatMap cell4)[i]? = some u → cur[i]? = some u) (hg : ∀ x ∈ L, GoodA M w x) :
    Acts M w (.slice (some ⟨b, 0, none⟩) L.length cap) L.length := by
  refine ⟨_, cap, rfl, fun k hk => ⟨b, 0, rfl, ?_⟩⟩
  have hx : L[k]? = some L[k] := List.getElem?_eq_getElem hk
  obtain ⟨h1, h2, h3, h4, p, h5, h6, h7, h8⟩ := hg L[k] (List.getElem_mem hk)
  obtain ⟨e0, e1, e2, e3⟩ := cells4_at L k _ hx
  have at' : ∀ i u, (L.flatMap cell4)[i]? = some u → w.cell? ⟨b, i, none⟩ = some u := fun i u hi => by
    simp only [World.cell?, h]; exact hc i u hi
  exact ⟨_, _, _, _, p, by rw [Nat.zero_add]; exact at' _ _ e0, by rw [Nat.zero_add]; exact at' _ _ e1, by rw [Nat.zero_add]; exact at' _ _ e2, by rw [Nat.zero_add]; exact at' _ _ e3, h1, h2, h3, h4, h5, h6, h7, h8⟩
/-- The slice v owns the acts L. -/
def OwnA (w : World) (R : Nat) (v : Value) (L : List Act4) : Prop := w.ownsRow R 57 4 v L.length (L.flatMap cell4)
theorem OwnA.acts {M R : Nat} {w : World} {v : Value} {L : List Act4} (h : OwnA w R v L) (hg : ∀ x ∈ L, GoodA M w x) : Acts M w v L.length := by
  rcases h.2 with ⟨e, h0⟩ | ⟨g, cap, cur, e, hg', hb, h3, h4, h5, h6⟩
  · rw [h0]; exact ⟨none, 0, e, fun k hk => by omega⟩
  · rw [e]
    refine acts_of_block hb (fun i u hi => ?_) hg
    rw [← h6] at hi
    rw [List.getElem?_take] at hi
    split at hi
    · simpa using hi
    · cases hi
theorem OwnA.nil {w : World} {R : Nat} : OwnA w R (.slice none 0 0) [] := ⟨rfl, .inl ⟨rfl, rfl⟩⟩
theorem OwnA.app {w : World} {R : Nat} {v : Value} {L N : List Act4} {n : Nat} {news : List Value} (hN : news = N.flatMap cell4) (hn : n = N.length) (h : w.ownsRow R 57 4 v (L.length + n) (L.flatMap cell4 ++ news)) : OwnA w R v (L ++ N) := by
  subst hN hn
  unfold OwnA
  rw [List.length_append, List.flatMap_append]; exact h
theorem cells_new {w : World} {cur : Array Value} {t : TypeId} (j : Nat) (u : Value) (h : cur.toList[j]? = some u) : (w.alloc (.cells cur t)).cell? ((⟨w.heap.size, 0, none⟩ : Addr).add j) = some u := by
  rw [add_plain, Nat.zero_add]
  simp only [World.cell?, nw]
  simpa using h
theorem infoAct : (Try.prog.info? 57).map (fun i => (i.zero, i.size, i.bytes)) = some (some (.agg #[.int .u8 0, .int .u8 0, .int .i64 0, .slice none 0 0]), 4, 40) := by kernel_rfl
theorem grownA_below {w w' : World} {R : Nat} {v : Value} {L : List Act4} (hB : R ≤ w.heap.size) (ho : OwnA w R v L) (hg : w.grownBy w' v.ownBlock) : Below R w w' := by
  refine (Below.refl _ w).grown hg hB (fun k e => ?_)
  rcases ho.2 with ⟨e2, _⟩ | ⟨g, cap, cur, e2, hg', _⟩
  · rw [e2] at e; cases e
  · rw [e2] at e
    obtain rfl : g = k := by simpa [Value.ownBlock] using e
    exact hg'
def GoodN (x : Act4) : Prop := 0 ≤ x.1 ∧ x.1 ≤ 255 ∧ 0 ≤ x.2.1 ∧ x.2.1 ≤ 255 ∧ x.2.2.2 = .slice none 0 0
theorem GoodN.good {M : Nat} {w : World} {x : Act4} (h : GoodN x) : GoodA M w x := by
  obtain ⟨a, b, c, d⟩ := x
  obtain ⟨h1, h2, h3, h4, h5⟩ := h
  dsimp only at h5
  subst h5
  exact good_nil h1 h2 h3 h4
theorem OwnA.alloc {w : World} {R : Nat} {v : Value} {L : List Act4} (h : OwnA w R v L) (o : Obj) : OwnA (w.alloc o) R v L := World.ownsRow.alloc h o
theorem OwnA.own_lt {w : World} {R g : Nat} {v : Value} {L : List Act4} (h : OwnA w R v L) (hg : v.ownBlock = some g) : R ≤ g ∧ g < w.heap.size := World.ownsRow.lt h g hg
theorem cells_newk {w : World} {cur : Array Value} {t : TypeId} {b : Nat} (hk : w.heap.size = b) (j : Nat) (u : Value) (h : cur.toList[j]? = some u) : (w.alloc (.cells cur t)).cell? ((⟨b, 0, none⟩ : Addr).add j) = some u := by
  subst hk; exact cells_new j u h
theorem OwnA.le {w : World} {R : Nat} {v : Value} {L : List Act4} (h : OwnA w R v L) : ∃ sa cap, v = .slice sa L.length cap ∧ L.length ≤ cap := by
  rcases h.2 with ⟨e, h0⟩ | ⟨g, cap, cur, e, hg', hb, h3, h4, h5, h6⟩
  · exact ⟨none, 0, by rw [e, h0], by omega⟩
  · exact ⟨_, cap, e, h3⟩
theorem I12_at {w : World} {b : Nat} (h : w.heap[b]? = some (.cells #[.int .i64 (-9223372036854775808), .int .i64 (-1), .int .i64 0, .int .i64 1, .int .i64 2, .int .i64 256, .int .i64 257, .int .i64 281474976710654, .int .i64 281474976710655, .int .i64 281474976710656, .int .i64 281474976710657, .int .i64 9223372036854775807] 3)) (k : Nat) (hk : k < 12) :
    ∃ x : Int, -9223372036854775808 ≤ x ∧ x ≤ 9223372036854775807 ∧ w.cell? ⟨b, k, none⟩ = some (.int .i64 x) := by
  match k, hk with
  | 0, _ => exact ⟨(-9223372036854775808), by decide, by decide, by simp [World.cell?, h]⟩
  | 1, _ => exact ⟨(-1), by decide, by decide, by simp [World.cell?, h]⟩
  | 2, _ => exact ⟨0, by decide, by decide, by simp [World.cell?, h]⟩
  | 3, _ => exact ⟨1, by decide, by decide, by simp [World.cell?, h]⟩
  | 4, _ => exact ⟨2, by decide, by decide, by simp [World.cell?, h]⟩
  | 5, _ => exact ⟨256, by decide, by decide, by simp [World.cell?, h]⟩
  | 6, _ => exact ⟨257, by decide, by decide, by simp [World.cell?, h]⟩
  | 7, _ => exact ⟨281474976710654, by decide, by decide, by simp [World.cell?, h]⟩
  | 8, _ => exact ⟨281474976710655, by decide, by decide, by simp [World.cell?, h]⟩
  | 9, _ => exact ⟨281474976710656, by decide, by decide, by simp [World.cell?, h]⟩
  | 10, _ => exact ⟨281474976710657, by decide, by decide, by simp [World.cell?, h]⟩
  | 11, _ => exact ⟨9223372036854775807, by decide, by decide, by simp [World.cell?, h]⟩
theorem run_zero61 (w : World) : (zeroValue 61).run Try.prog w = .ok (.agg (bufCells (List.replicate 256 0) 0 0 0 0)) w := by kernel_rfl
theorem bufAt_zero (w : World) : BufAt (w.alloc (.cells (bufCells (List.replicate 256 0) 0 0 0 0) 61)) w.heap.size (List.replicate 256 0) 0 0 0 0 := ⟨List.length_replicate, nw⟩
theorem block_at {w : World} {b n : Nat} {L : List Act4} {ty : TypeId} {f : Nat × Nat} {x : Act4} (h : w.heap[b]? = some (.cells (L.flatMap cell4).toArray ty f)) (hx : L[n]? = some x) :
    w.cell? ⟨b, n * 4, none⟩ = some (.int .u8 x.1) ∧ w.cell? ⟨b, n * 4 + 1, none⟩ = some (.int .u8 x.2.1) ∧ w.cell? ⟨b, n * 4 + 2, none⟩ = some (.int .i64 x.2.2.1) ∧ w.cell? ⟨b, n * 4 + 3, none⟩ = some x.2.2.2 := by
  obtain ⟨e0, e1, e2, e3⟩ := cells4_at L n x hx
  simp only [World.cell?, h, List.getElem?_toArray]
  exact ⟨e0, e1, e2, e3⟩
theorem acts_of_flat {M : Nat} {w : World} {b cap : Nat} {L : List Act4} (h : w.heap[b]? = some (.cells (L.flatMap cell4).toArray 57 (0, 0))) (hg : ∀ x ∈ L, GoodA M w x) : Acts M w (.slice (some ⟨b, 0, none⟩) L.length cap) L.length :=
  acts_of_block h (fun i u hi => by simpa using hi) hg
end Go.Proofs.Ytogdhmbdackeeaa
