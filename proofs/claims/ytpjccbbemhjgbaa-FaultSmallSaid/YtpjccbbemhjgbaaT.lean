import Derived.Test.YtpjccbbemhjgbaaR
import Derived.OwnWalk
import Derived.Maps.AppendAt
namespace Go.Proofs.Ytpjccbbemhjgbaa
open Go.RowKit
set_option linter.unusedVariables false

/-- A step as Steps lays it. -/
def conv0 : Stp → Stp
  | (k, n, m) => (k % 6, if k % 6 = 3 then clampN n else n, m)
def cell3 (x : Stp) : List Value := [.int .u8 x.1, .int .i64 x.2.1, .int .i64 x.2.2]
theorem infoStep : (Try.prog.info? 79).map (fun i => (i.zero, i.size, i.bytes)) = some (some (.agg #[.int .u8 0, .int .i64 0, .int .i64 0]), 3, 24) := by kernel_rfl
theorem cells3_length (l : List Stp) : (l.flatMap cell3).length = l.length * 3 := by
  induction l with
  | nil => rfl
  | cons x l ih => rw [List.flatMap_cons, List.length_append, ih]; simp [cell3]; omega
theorem cells3_at (l : List Stp) (j : Nat) (x : Stp) (h : l[j]? = some x) : (l.flatMap cell3)[j * 3]? = some (.int .u8 x.1) ∧ (l.flatMap cell3)[j * 3 + 1]? = some (.int .i64 x.2.1) ∧ (l.flatMap cell3)[j * 3 + 2]? = some (.int .i64 x.2.2) := by
  induction l generalizing j with
  | nil => simp at h
  | cons y l ih =>
    cases j with
    | zero =>
      obtain rfl : y = x := by simpa using h
      exact ⟨rfl, rfl, rfl⟩
    | succ j =>
      have := ih j (by simpa using h)
      rw [List.flatMap_cons]
      have e : (j + 1) * 3 = (cell3 y).length + j * 3 := by simp [cell3]; omega
      rw [show (j + 1) * 3 + 1 = (cell3 y).length + (j * 3 + 1) by simp [cell3]; omega, show (j + 1) * 3 + 2 = (cell3 y).length + (j * 3 + 2) by simp [cell3]; omega, e]
      refine ⟨?_, ?_, ?_⟩ <;> rw [List.getElem?_append_right (by omega), Nat.add_sub_cancel_left]
      · exact this.1
      · exact this.2.1
      · exact this.2.2

/-- A slice of steps in a block of its own. -/
def OwnS (w : World) (B : Nat) (v : Value) (ys : List Stp) : Prop := w.ownsRow B 79 3 v ys.length (ys.flatMap cell3)

theorem grown_below3 {w w' : World} {o : Obj} {v : Value} {B n : Nat} {xs : List Value} (hB : B ≤ w.heap.size) (ho : (w.alloc o).ownsRow B 79 3 v n xs) (hg : (w.alloc o).grownBy w' v.ownBlock) : Below B w w' := by
  refine ((Below.refl B w).alloc hB o).grown hg (by simp; omega) fun j ej => ?_
  rcases ho.2 with ⟨rfl, _⟩ | ⟨g, cap, cur, rfl, hb, _⟩
  · simp [Value.ownBlock] at ej
  · obtain rfl : g = j := by simpa [Value.ownBlock] using ej
    exact hb

theorem cells3_new (w : World) (a b c : Value) (t : TypeId) : ∀ j u, [a, b, c][j]? = some u → (w.alloc (.cells #[a, b, c] t)).cell? ((⟨w.heap.size, 0, none⟩ : Addr).add j) = some u := by
  intro j u hj
  rcases j with _ | _ | _ | j
  · simp at hj; subst hj; simp [Addr.add]
  · simp at hj; subst hj; simp [Addr.add]
  · simp at hj; subst hj; simp [Addr.add]
  · simp at hj
theorem ownS_snoc {w : World} {B : Nat} {v : Value} {ys : List Stp} {a b c : Int} (h : w.ownsRow B 79 3 v (ys.length + 1) (ys.flatMap cell3 ++ [.int .u8 a, .int .i64 b, .int .i64 c])) : OwnS w B v (ys ++ [(a, b, c)]) := by
  unfold OwnS
  rw [List.length_append, List.flatMap_append]
  exact h
theorem take_map_snoc (xs : List Stp) (k : Nat) (x : Stp) (F : Stp → Stp) (h : xs[k]? = some x) : (xs.take (k + 1)).map F = (xs.take k).map F ++ [F x] := by
  rw [List.take_add_one, h]; simp

set_option maxRecDepth 100000 in
set_option maxHeartbeats 4000000 in
theorem steps_is {w : World} (xs : List Stp) (hx : WfS xs) (hl : xs.length ≤ 12) (sv : Value) (hr : Reads3 w sv xs) :
    Calls Try.prog 52 #[sv] w fun e w' => ∃ v, e = .returned v ∧ OwnS w' w.heap.size v (xs.map conv0) ∧ Below w.heap.size w w' := by
  have HR := Lib.hid hr
  obtain ⟨sa, c, rfl, hc⟩ := hr
  clear hc
  have HX := Lib.hid hx
  obtain ⟨i0, hi, hz0, hz1, hz2⟩ := info_parts infoStep
  clear hx
  go_enter Try.func52, Try.ntmps52
  go_wp2_with fail
  go_loopg [9, 3] xs.length (fun gk i v wr => ∃ k : Nat, k + gk = xs.length ∧ i = .int .i64 k ∧ OwnS wr w.heap.size v ((xs.take k).map conv0) ∧ Below w.heap.size w wr)
  case atStart => exact ⟨0, by omega, rfl, ⟨rfl, .inl ⟨rfl, rfl⟩⟩, Below.refl _ _⟩
  case round =>
    obtain ⟨k, hk, rfl, ho, hb⟩ := hrel
    have HO := Lib.hid ho; have W1 := Lib.hid hb; have HK := Lib.hid hk
    by_cases hlt : k < xs.length
    · obtain ⟨kk, n, m, hx⟩ : ∃ kk n m, xs[k]? = some (kk, n, m) := ⟨_, _, _, List.getElem?_eq_getElem hlt⟩
      obtain ⟨pb, po, c', e, hpb, e0, e1, e2⟩ := HR.out.at W1.out (j := k) (x := (kk, n, m)) hx
      obtain rfl : sa = some ⟨pb, po, none⟩ := by simp only [Value.slice.injEq] at e; exact e.1
      obtain ⟨z0, z1, z2, z3, z4, z5⟩ := HX.out _ (List.mem_of_getElem? hx)
      dsimp only at z0 z1 z2 z3 z4 z5 e0 e1 e2
      have HS := Lib.hid (take_map_snoc xs k (kk, n, m) conv0 hx)
      have hlen : ((xs.take k).map conv0).length = k := by rw [List.length_map, List.length_take]; omega
      have HLN := Lib.hid hlen
      obtain ⟨Y, hY⟩ : ∃ Y, Y = (xs.take k).map conv0 := ⟨_, rfl⟩
      rw [← hY] at HO HS HLN
      have hN := W1.out.size
      clear e HR hx ho hb hk hlen hY
      by_cases h6 : kk % 6 = 3
      · have hcl : (n < 0 ∧ clampN n = 0) ∨ (0 ≤ n ∧ n ≤ 3000 ∧ clampN n = n) ∨ (3000 < n ∧ clampN n = 3000) := by unfold clampN; omega
        have hcv : conv0 (kk, n, m) = (3, clampN n, m) := by simp [conv0, h6]
        rcases hcl with ⟨q1, q2⟩ | ⟨q1, q2, q3⟩ | ⟨q1, q2⟩
        · rw [q2] at hcv
          have HC := Lib.hid hcv
          clear hcv
          go_wp2_with (at_builtin; refine wpList_append_own _ rfl _ _ 77 rfl w.heap.size 79 i0 _ 3 24 Try.underlying77 hi hz0 hz1 hz2 rfl (by decide) u3 Y.length (Y.flatMap cell3) rfl (by have := HO.out; exact ((this.alloc _).alloc _).alloc _) ⟨wr.heap.size + 1 + 1, 0, none⟩ 1 1 [.int .u8 3, .int .i64 0, .int .i64 m] rfl rfl (by have := cells3_new ((wr.alloc (.cells #[.int .u8 kk, .int .i64 n, .int .i64 m] 46)).alloc (.cells #[.int .u8 3, .int .i64 0, .int .i64 m] 79)) (.int .u8 3) (.int .i64 0) (.int .i64 m) 79; simpa using this) (by simp [Value.oneCell']) (by have := HLN.out; simp [maxLen]; omega) (by have := HLN.out; omega) (by simp; omega) ?_; intro v' w4 hown hgrow _; have HO4 := Lib.hid (ownS_snoc hown); have W4 := Lib.hid (W1.out.trans ((ballo (ballo (Below.refl _ wr) hN _) (by simp; omega) _).trans (grown_below3 (by simp; omega) (by have := HO.out; exact ((this.alloc _).alloc _).alloc _) hgrow))); clear hown hgrow)
          have hk := HK.out
          go_roundg (gk - 1)
          case rel =>
            refine ⟨k + 1, by omega, by simp, ?_, W4.out⟩
            rw [HS.out, HC.out]
            exact HO4.out
          case measure => omega
        · rw [q3] at hcv
          clear q3
          have HC := Lib.hid hcv
          clear hcv
          go_wp2_with (at_builtin; refine wpList_append_own _ rfl _ _ 77 rfl w.heap.size 79 i0 _ 3 24 Try.underlying77 hi hz0 hz1 hz2 rfl (by decide) u3 Y.length (Y.flatMap cell3) rfl (by have := HO.out; exact ((this.alloc _).alloc _).alloc _) ⟨wr.heap.size + 1 + 1, 0, none⟩ 1 1 [.int .u8 3, .int .i64 n, .int .i64 m] rfl rfl (by have := cells3_new ((wr.alloc (.cells #[.int .u8 kk, .int .i64 n, .int .i64 m] 46)).alloc (.cells #[.int .u8 3, .int .i64 n, .int .i64 m] 79)) (.int .u8 3) (.int .i64 n) (.int .i64 m) 79; simpa using this) (by simp [Value.oneCell']) (by have := HLN.out; simp [maxLen]; omega) (by have := HLN.out; omega) (by simp; omega) ?_; intro v' w4 hown hgrow _; have HO4 := Lib.hid (ownS_snoc hown); have W4 := Lib.hid (W1.out.trans ((ballo (ballo (Below.refl _ wr) hN _) (by simp; omega) _).trans (grown_below3 (by simp; omega) (by have := HO.out; exact ((this.alloc _).alloc _).alloc _) hgrow))); clear hown hgrow)
          have hk := HK.out
          go_roundg (gk - 1)
          case rel =>
            refine ⟨k + 1, by omega, by simp, ?_, W4.out⟩
            rw [HS.out, HC.out]
            exact HO4.out
          case measure => omega
        · rw [q2] at hcv
          clear q2
          have HC := Lib.hid hcv
          clear hcv
          go_wp2_with (at_builtin; refine wpList_append_own _ rfl _ _ 77 rfl w.heap.size 79 i0 _ 3 24 Try.underlying77 hi hz0 hz1 hz2 rfl (by decide) u3 Y.length (Y.flatMap cell3) rfl (by have := HO.out; exact ((this.alloc _).alloc _).alloc _) ⟨wr.heap.size + 1 + 1, 0, none⟩ 1 1 [.int .u8 3, .int .i64 3000, .int .i64 m] rfl rfl (by have := cells3_new ((wr.alloc (.cells #[.int .u8 kk, .int .i64 n, .int .i64 m] 46)).alloc (.cells #[.int .u8 3, .int .i64 3000, .int .i64 m] 79)) (.int .u8 3) (.int .i64 3000) (.int .i64 m) 79; simpa using this) (by simp [Value.oneCell']) (by have := HLN.out; simp [maxLen]; omega) (by have := HLN.out; omega) (by simp; omega) ?_; intro v' w4 hown hgrow _; have HO4 := Lib.hid (ownS_snoc hown); have W4 := Lib.hid (W1.out.trans ((ballo (ballo (Below.refl _ wr) hN _) (by simp; omega) _).trans (grown_below3 (by simp; omega) (by have := HO.out; exact ((this.alloc _).alloc _).alloc _) hgrow))); clear hown hgrow)
          have hk := HK.out
          go_roundg (gk - 1)
          case rel =>
            refine ⟨k + 1, by omega, by simp, ?_, W4.out⟩
            rw [HS.out, HC.out]
            exact HO4.out
          case measure => omega
      · have h6b : (kk % 6 == 3) = false := by simpa using h6
        have hcv : conv0 (kk, n, m) = (kk % 6, n, m) := by simp [conv0, h6]
        have HC := Lib.hid hcv
        clear hcv
        go_wp2_with (at_builtin; refine wpList_append_own _ rfl _ _ 77 rfl w.heap.size 79 i0 _ 3 24 Try.underlying77 hi hz0 hz1 hz2 rfl (by decide) u3 Y.length (Y.flatMap cell3) rfl (by have := HO.out; exact ((this.alloc _).alloc _).alloc _) ⟨wr.heap.size + 1 + 1, 0, none⟩ 1 1 [.int .u8 (kk % 6), .int .i64 n, .int .i64 m] rfl rfl (by have := cells3_new ((wr.alloc (.cells #[.int .u8 kk, .int .i64 n, .int .i64 m] 46)).alloc (.cells #[.int .u8 (kk % 6), .int .i64 n, .int .i64 m] 79)) (.int .u8 (kk % 6)) (.int .i64 n) (.int .i64 m) 79; simpa using this) (by simp [Value.oneCell']) (by have := HLN.out; simp [maxLen]; omega) (by have := HLN.out; omega) (by simp; omega) ?_; intro v' w4 hown hgrow _; have HO4 := Lib.hid (ownS_snoc hown); have W4 := Lib.hid (W1.out.trans ((ballo (ballo (Below.refl _ wr) hN _) (by simp; omega) _).trans (grown_below3 (by simp; omega) (by have := HO.out; exact ((this.alloc _).alloc _).alloc _) hgrow))); clear hown hgrow)
        have hk := HK.out
        go_roundg (gk - 1)
        case rel =>
          refine ⟨k + 1, by omega, by simp, ?_, W4.out⟩
          rw [HS.out, HC.out]
          exact HO4.out
        case measure => omega
    · obtain rfl : k = xs.length := by omega
      clear hk ho hb
      go_wp2_with fail
      go_ret
      have := HO.out
      rw [List.take_length] at this
      exact ⟨_, rfl, this, W1.out⟩
end Go.Proofs.Ytpjccbbemhjgbaa
