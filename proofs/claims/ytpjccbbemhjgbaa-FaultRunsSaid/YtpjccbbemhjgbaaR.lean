import Derived.Test.YtpjccbbemhjgbaaG
import Derived.Deep.LoopGhost
import Derived.Deep.DeepCutAuto
import Derived.BigQuiet
namespace Go.Proofs.Ytpjccbbemhjgbaa
open Go.RowKit
set_option linter.unusedVariables false

/-! ## What runs of steps come to -/
abbrev Stp := Int × Int × Int
abbrev Rs := Int × Int × Int × Int × Int
def clampN (n : Int) : Int := min (max n 0) 3000
def mostOf (m : Int) : Int := if m < 0 ∨ 1048576 < m then 1048576 else m
/-- The meter's rest, what was used, how many steps were done, what was thrown: its kind, and how much. -/
def run (f : Int) : Int → Int → Int → List Stp → Rs
  | l, u, d, [] => (l, u, d, 0, 0)
  | l, u, d, (k, n, m) :: t =>
    if k % 6 = 1 then (if l < n then (l, u, d, 1, n) else if 0 < n then run f (l - n) (u + n) (d + 1) t else run f l u (d + 1) t)
    else if k % 6 = 2 then run f f u (d + 1) t
    else if k % 6 = 3 then (if mostOf m < clampN n then (l, u, d, 2, clampN n) else run f l u (d + 1) t)
    else if k % 6 = 4 then (if n % 256 = 1 ∨ n % 256 = 2 then (l, u, d, n % 256, m) else (l, u, d, 9, 0))
    else if k % 6 = 5 then (l, u, d, 9, 0)
    else run f l u (d + 1) t
/-- A step as the reference has it. -/
def conv : Stp → Stp
  | (k, n, m) => (k % 6, if k % 6 = 3 then clampN n else if k % 6 = 4 then n % 256 else n, m)

/-- A slice of steps: three cells each. -/
def Reads3 (w : World) (sv : Value) (xs : List Stp) : Prop :=
  ∃ sa c, sv = .slice sa xs.length c ∧ ∀ (j : Nat) (x : Stp), xs[j]? = some x → ∃ pb po, sa = some ⟨pb, po, none⟩ ∧ w.cell? ⟨pb, po + j * 3, none⟩ = some (.int .u8 x.1) ∧ w.cell? ⟨pb, po + j * 3 + 1, none⟩ = some (.int .i64 x.2.1) ∧ w.cell? ⟨pb, po + j * 3 + 2, none⟩ = some (.int .i64 x.2.2)
def WfS (xs : List Stp) : Prop := ∀ x ∈ xs, 0 ≤ x.1 ∧ x.1 ≤ 255 ∧ -9223372036854775808 ≤ x.2.1 ∧ x.2.1 ≤ 9223372036854775807 ∧ -9223372036854775808 ≤ x.2.2 ∧ x.2.2 ≤ 9223372036854775807

theorem cell_six {w : World} {b : Nat} {p q r s t u : Value} {ty : TypeId} (h : w.heap[b]? = some (.cells #[p, q, r, s, t, u] ty (0, 0))) :
    (w.cell? ⟨b, 0, none⟩ = some p ∧ w.cell? ⟨b, 1, none⟩ = some q ∧ w.cell? ⟨b, 2, none⟩ = some r ∧ w.cell? ⟨b, 3, none⟩ = some s ∧ w.cell? ⟨b, 4, none⟩ = some t ∧ w.cell? ⟨b, 5, none⟩ = some u) ∧
    (w.frozen? ⟨b, 0, none⟩ = false ∧ w.frozen? ⟨b, 1, none⟩ = false ∧ w.frozen? ⟨b, 2, none⟩ = false ∧ w.frozen? ⟨b, 3, none⟩ = false ∧ w.frozen? ⟨b, 4, none⟩ = false ∧ w.frozen? ⟨b, 5, none⟩ = false) := by
  simp [World.cell?, World.frozen?, h]

theorem clampN_le (n : Int) : 0 ≤ clampN n ∧ clampN n ≤ 3000 := by unfold clampN; omega
theorem nwk {w : World} {o : Obj} {k : Nat} (h : w.heap.size = k) : (w.alloc o).heap[k]? = some o := by subst h; exact (MapKept.heap_alloc _ _).1
theorem Reads3.at {w w' : World} {sv : Value} {xs : List Stp} (h : Reads3 w sv xs) (hb : Below w.heap.size w w') {j : Nat} {x : Stp} (hj : xs[j]? = some x) :
    ∃ pb po c, sv = .slice (some ⟨pb, po, none⟩) xs.length c ∧ pb < w.heap.size ∧ w'.cell? ⟨pb, po + j * 3, none⟩ = some (.int .u8 x.1) ∧ w'.cell? ⟨pb, po + j * 3 + 1, none⟩ = some (.int .i64 x.2.1) ∧ w'.cell? ⟨pb, po + j * 3 + 2, none⟩ = some (.int .i64 x.2.2) := by
  obtain ⟨sa, c, rfl, hc⟩ := h
  obtain ⟨pb, po, rfl, h0, h1, h2⟩ := hc j x hj
  have hlt := World.block_lt_of_cell? _ _ h0
  exact ⟨pb, po, c, rfl, hlt, (hb.cell (p := ⟨pb, po + j * 3, none⟩) hlt).trans h0, (hb.cell (p := ⟨pb, po + j * 3 + 1, none⟩) hlt).trans h1, (hb.cell (p := ⟨pb, po + j * 3 + 2, none⟩) hlt).trans h2⟩

def st6 (f l u d k m : Int) : Array Value := #[.int .i64 f, .int .i64 l, .int .i64 u, .int .i64 d, .int .i64 k, .int .i64 m]

set_option maxRecDepth 100000 in
set_option maxHeartbeats 4000000 in
theorem refdo_is {w : World} (f l u d0 k0 m0 : Int) (xs : List Stp) (hx : WfS xs) (hl : xs.length ≤ 12) (sv : Value) (hr : Reads3 w sv (xs.map conv)) (l0 : 0 ≤ l) (l1 : l ≤ 1048576) (f0 : 0 ≤ f) (f1 : f ≤ 1048576) (u0 : 0 ≤ u) (u1 : u ≤ 1000000000) :
    Calls Try.prog 53 #[.agg #[.int .i64 f, .int .i64 l, .int .i64 u, .int .i64 d0, .int .i64 k0, .int .i64 m0], sv] w fun e w' =>
      e = .returned (.agg #[.int .i64 f, .int .i64 (run f l u 0 xs).1, .int .i64 (run f l u 0 xs).2.1, .int .i64 (run f l u 0 xs).2.2.1, .int .i64 (run f l u 0 xs).2.2.2.1, .int .i64 (run f l u 0 xs).2.2.2.2]) ∧ Below w.heap.size w w' := by
  have HR := Lib.hid hr
  obtain ⟨sa, c, rfl, hc⟩ := hr
  clear hc
  have HX := Lib.hid hx
  clear hx
  obtain ⟨T, hT⟩ : ∃ T, T = run f l u 0 xs := ⟨_, rfl⟩
  have HT := Lib.hid hT
  rw [← hT, List.length_map]
  clear hT
  go_enter Try.func53, Try.ntmps53
  go_wp2_with fail
  go_loopg [5] xs.length (fun gk i wr => ∃ k : Nat, k + gk = xs.length ∧ i = .int .i64 k ∧ ∃ L U D, wr.heap[w.heap.size]? = some (.cells (st6 f L U D 0 0) 76 (0, 0)) ∧ wr.heap[w.heap.size + 1]? = some (.cells (st6 0 0 0 0 0 0) 76 (0, 0)) ∧ Below w.heap.size w wr ∧
    0 ≤ L ∧ L ≤ 1048576 ∧ 0 ≤ U ∧ U ≤ 1000000000 + 1048576 * k ∧ 0 ≤ D ∧ D ≤ k ∧ run f L U D (xs.drop k) = T)
  case atStart =>
    refine ⟨0, by omega, rfl, l, u, 0, ?_, ?_, ?_, l0, l1, u0, by omega, by omega, by omega, HT.out.symm⟩
    · exact al (nwk rfl)
    · exact nwk (by simp)
    · exact balloc (balloc (Below.refl _ _) _) _
  case round =>
    obtain ⟨k, hk, rfl, L, U, D, hA, hB, hb, q0, q1, q2, q3, q4, q5, hrun⟩ := hrel
    have HA := Lib.hid hA; have HB := Lib.hid hB; have W1 := Lib.hid hb; have HK := Lib.hid hk; have HN := Lib.hid hrun
    by_cases hlt : k < xs.length
    · obtain ⟨kk, n, m, hx⟩ : ∃ kk n m, xs[k]? = some (kk, n, m) := ⟨_, _, _, List.getElem?_eq_getElem hlt⟩
      obtain ⟨pb, po, c', e, hpb, e0, e1, e2⟩ := HR.out.at W1.out (j := k) (x := conv (kk, n, m)) (by rw [List.getElem?_map, hx]; rfl)
      obtain rfl : sa = some ⟨pb, po, none⟩ := by simp only [Value.slice.injEq] at e; exact e.1
      have hw := HX.out _ (List.mem_of_getElem? hx)
      have hdrop : xs.drop k = (kk, n, m) :: xs.drop (k + 1) := by
        rw [List.drop_eq_getElem_cons hlt]; simp [List.getElem?_eq_getElem hlt] at hx; rw [hx]
      rw [hdrop] at hrun
      obtain ⟨⟨a0, a1, a2, a3, a4, a5⟩, g0, g1, g2, g3, g4, g5⟩ := cell_six hA
      obtain ⟨⟨b0, b1, b2, b3, b4, b5⟩, k0, k1, k2, k3, k4, k5⟩ := cell_six hB
      obtain ⟨z0, z1, z2, z3, z4, z5⟩ := hw
      dsimp only at z0 z1 z2 z3 z4 z5
      have hk6 : kk % 6 = 0 ∨ kk % 6 = 1 ∨ kk % 6 = 2 ∨ kk % 6 = 3 ∨ kk % 6 = 4 ∨ kk % 6 = 5 := by omega
      rcases hk6 with h6 | h6 | h6 | h6 | h6 | h6
      all_goals
        simp only [conv, h6, run] at e0 e1 e2 hrun
        have l0 := lt_of_block hA; have l1 := lt_of_block hB
        clear e HR hdrop hx hA hB hb
        clear h6
      · simp at e0 e1 e2 hrun
        have HR1 := Lib.hid hrun
        clear hk hrun
        go_wp2_with fail
        have hk := HK.out
        go_roundg (gk - 1)
        case rel =>
          refine ⟨k + 1, by omega, by simp, _, _, _, ?_, ?_, ?_, ?_, ?_, ?_, ?_, ?_, ?_, HR1.out⟩
          rotate_left 3
          · omega
          · omega
          · omega
          · omega
          · omega
          · omega
          · refine al ?_
            rw [heap_setCell_at HA.out]; rfl
          · exact al ((heap_setCell_ne (by omega)).trans HB.out)
          · (repeat' (first | with_reducible exact W1.out | with_reducible refine balloc ?_ _ | with_reducible refine bset ?_ ?_ _ | with_reducible refine Below.drew ?_)); all_goals omega
        case measure => omega
      · simp at e0 e1 e2 hrun
        by_cases hn : L < n
        · rw [if_pos hn] at hrun
          have HR1 := Lib.hid hrun
          clear hk hrun
          go_wp2_with fail
          go_region
          go_wp2_with fail
          have hT := HR1.out
          subst hT
          refine bodyPost_ret (v := .agg #[.int .i64 f, .int .i64 L, .int .i64 U, .int .i64 D, .int .i64 1, .int .i64 n]) (by simp [results, Try.results53, go_sem, b0, b1, b2, b3, b4, b5, l1]) rfl ⟨rfl, ?_⟩
          (repeat' (first | with_reducible exact W1.out | with_reducible refine balloc ?_ _ | with_reducible refine bset ?_ ?_ _ | with_reducible refine Below.drew ?_)); all_goals omega
        · rw [if_neg hn] at hrun
          by_cases hn0 : 0 < n
          · rw [if_pos hn0] at hrun
            have HR1 := Lib.hid hrun
            clear hk hrun
            go_wp2_with fail
            go_region
            go_wp2_with fail
            have hk := HK.out
            go_roundg (gk - 1)
            case rel =>
              refine ⟨k + 1, by omega, by simp, _, _, _, ?_, ?_, ?_, ?_, ?_, ?_, ?_, ?_, ?_, HR1.out⟩
              rotate_left 3
              · omega
              · omega
              · omega
              · omega
              · omega
              · omega
              · refine al ?_
                rw [heap_setCell_at (heap_setCell_at (heap_setCell_at HA.out))]; rfl
              · exact al ((heap_setCell_ne (by omega)).trans ((heap_setCell_ne (by omega)).trans ((heap_setCell_ne (by omega)).trans HB.out)))
              · (repeat' (first | with_reducible exact W1.out | with_reducible refine balloc ?_ _ | with_reducible refine bset ?_ ?_ _ | with_reducible refine Below.drew ?_)); all_goals omega
            case measure => omega
          · rw [if_neg hn0] at hrun
            have HR1 := Lib.hid hrun
            clear hk hrun
            go_wp2_with fail
            have hk := HK.out
            go_roundg (gk - 1)
            case rel =>
              refine ⟨k + 1, by omega, by simp, _, _, _, ?_, ?_, ?_, ?_, ?_, ?_, ?_, ?_, ?_, HR1.out⟩
              rotate_left 3
              · omega
              · omega
              · omega
              · omega
              · omega
              · omega
              · refine al ?_
                rw [heap_setCell_at HA.out]; rfl
              · exact al ((heap_setCell_ne (by omega)).trans HB.out)
              · (repeat' (first | with_reducible exact W1.out | with_reducible refine balloc ?_ _ | with_reducible refine bset ?_ ?_ _ | with_reducible refine Below.drew ?_)); all_goals omega
            case measure => omega
      · simp at e0 e1 e2 hrun
        have HR1 := Lib.hid hrun
        clear hk hrun
        go_wp2_with fail
        have hk := HK.out
        go_roundg (gk - 1)
        case rel =>
          refine ⟨k + 1, by omega, by simp, _, _, _, ?_, ?_, ?_, ?_, ?_, ?_, ?_, ?_, ?_, HR1.out⟩
          rotate_left 3
          · omega
          · omega
          · omega
          · omega
          · omega
          · omega
          · refine al ?_
            rw [heap_setCell_at (heap_setCell_at HA.out)]; rfl
          · exact al ((heap_setCell_ne (by omega)).trans ((heap_setCell_ne (by omega)).trans HB.out))
          · (repeat' (first | with_reducible exact W1.out | with_reducible refine balloc ?_ _ | with_reducible refine bset ?_ ?_ _ | with_reducible refine Below.drew ?_)); all_goals omega
        case measure => omega
      · simp at e0 e1 e2 hrun
        obtain ⟨c0, c1⟩ := clampN_le n
        obtain ⟨N, hN⟩ : ∃ N, N = clampN n := ⟨_, rfl⟩
        rw [← hN] at e1 hrun c0 c1
        clear hN
        by_cases hm0 : m < 0 ∨ 1048576 < m
        · have hM : mostOf m = 1048576 := by unfold mostOf; rw [if_pos hm0]
          rw [hM, if_neg (by omega)] at hrun
          clear hM
          rcases hm0 with hm0 | hm0
          · have hmm : ¬ 1048576 < m := by omega
            have HR1 := Lib.hid hrun
            clear hk hrun
            go_wp2_with fail
            have hk := HK.out
            go_roundg (gk - 1)
            case rel =>
              refine ⟨k + 1, by omega, by simp, _, _, _, ?_, ?_, ?_, ?_, ?_, ?_, ?_, ?_, ?_, HR1.out⟩
              rotate_left 3
              · omega
              · omega
              · omega
              · omega
              · omega
              · omega
              · refine al ?_
                rw [heap_setCell_at HA.out]; rfl
              · exact al ((heap_setCell_ne (by omega)).trans HB.out)
              · (repeat' (first | with_reducible exact W1.out | with_reducible refine balloc ?_ _ | with_reducible refine bset ?_ ?_ _ | with_reducible refine Below.drew ?_)); all_goals omega
            case measure => omega
          · have hmm : ¬ m < 0 := by omega
            have HR1 := Lib.hid hrun
            clear hk hrun
            go_wp2_with fail
            have hk := HK.out
            go_roundg (gk - 1)
            case rel =>
              refine ⟨k + 1, by omega, by simp, _, _, _, ?_, ?_, ?_, ?_, ?_, ?_, ?_, ?_, ?_, HR1.out⟩
              rotate_left 3
              · omega
              · omega
              · omega
              · omega
              · omega
              · omega
              · refine al ?_
                rw [heap_setCell_at HA.out]; rfl
              · exact al ((heap_setCell_ne (by omega)).trans HB.out)
              · (repeat' (first | with_reducible exact W1.out | with_reducible refine balloc ?_ _ | with_reducible refine bset ?_ ?_ _ | with_reducible refine Below.drew ?_)); all_goals omega
            case measure => omega
        · have hM : mostOf m = m := by unfold mostOf; rw [if_neg hm0]
          rw [hM] at hrun
          have hm1 : ¬ m < 0 := by omega
          have hm2 : ¬ 1048576 < m := by omega
          clear hM hm0
          by_cases hn : m < N
          · rw [if_pos hn] at hrun
            have HR1 := Lib.hid hrun
            clear hk hrun
            go_wp2_with fail
            go_region
            go_wp2_with fail
            have hT := HR1.out
            subst hT
            refine bodyPost_ret (v := .agg #[.int .i64 f, .int .i64 L, .int .i64 U, .int .i64 D, .int .i64 2, .int .i64 N]) (by simp [results, Try.results53, go_sem, b0, b1, b2, b3, b4, b5, l1]) rfl ⟨rfl, ?_⟩
            (repeat' (first | with_reducible exact W1.out | with_reducible refine balloc ?_ _ | with_reducible refine bset ?_ ?_ _ | with_reducible refine Below.drew ?_)); all_goals omega
          · rw [if_neg hn] at hrun
            have HR1 := Lib.hid hrun
            clear hk hrun
            go_wp2_with fail
            have hk := HK.out
            go_roundg (gk - 1)
            case rel =>
              refine ⟨k + 1, by omega, by simp, _, _, _, ?_, ?_, ?_, ?_, ?_, ?_, ?_, ?_, ?_, HR1.out⟩
              rotate_left 3
              · omega
              · omega
              · omega
              · omega
              · omega
              · omega
              · refine al ?_
                rw [heap_setCell_at HA.out]; rfl
              · exact al ((heap_setCell_ne (by omega)).trans HB.out)
              · (repeat' (first | with_reducible exact W1.out | with_reducible refine balloc ?_ _ | with_reducible refine bset ?_ ?_ _ | with_reducible refine Below.drew ?_)); all_goals omega
            case measure => omega
      · simp at e0 e1 e2 hrun
        obtain ⟨N, hN⟩ : ∃ N, N = n % 256 := ⟨_, rfl⟩
        have c0 : 0 ≤ N := by omega
        have c1 : N < 256 := by omega
        rw [← hN] at e1 hrun
        clear hN
        by_cases hn : N = 1 ∨ N = 2
        · rw [if_pos hn] at hrun
          rcases hn with rfl | rfl
          · have HR1 := Lib.hid hrun
            clear hk hrun
            have hE := fun x y z t : Value => (cell_six (show ((((wr.setCell ⟨w.heap.size, 4, none⟩ x).setCell ⟨w.heap.size, 5, none⟩ y).setCell ⟨w.heap.size, 4, none⟩ z).setCell ⟨w.heap.size, 5, none⟩ t).heap[w.heap.size]? = some (.cells #[.int .i64 f, .int .i64 L, .int .i64 U, .int .i64 D, z, t] 76 (0, 0)) by rw [heap_setCell_at (heap_setCell_at (heap_setCell_at (heap_setCell_at HA.out)))]; rfl)).1.2.2.2.2.2
            go_wp2_with fail
            go_region
            go_wp2_with fail
            have hT := HR1.out
            subst hT
            refine bodyPost_ret (v := .agg #[.int .i64 f, .int .i64 L, .int .i64 U, .int .i64 D, .int .i64 1, .int .i64 m]) (by simp [results, Try.results53, go_sem, b0, b1, b2, b3, b4, b5, l1]) rfl ⟨rfl, ?_⟩
            (repeat' (first | with_reducible exact W1.out | with_reducible refine balloc ?_ _ | with_reducible refine bset ?_ ?_ _ | with_reducible refine Below.drew ?_)); all_goals omega
          · have HR1 := Lib.hid hrun
            clear hk hrun
            have hE := fun x y z t : Value => (cell_six (show ((((wr.setCell ⟨w.heap.size, 4, none⟩ x).setCell ⟨w.heap.size, 5, none⟩ y).setCell ⟨w.heap.size, 4, none⟩ z).setCell ⟨w.heap.size, 5, none⟩ t).heap[w.heap.size]? = some (.cells #[.int .i64 f, .int .i64 L, .int .i64 U, .int .i64 D, z, t] 76 (0, 0)) by rw [heap_setCell_at (heap_setCell_at (heap_setCell_at (heap_setCell_at HA.out)))]; rfl)).1.2.2.2.2.2
            go_wp2_with fail
            go_region
            go_wp2_with fail
            have hT := HR1.out
            subst hT
            refine bodyPost_ret (v := .agg #[.int .i64 f, .int .i64 L, .int .i64 U, .int .i64 D, .int .i64 2, .int .i64 m]) (by simp [results, Try.results53, go_sem, b0, b1, b2, b3, b4, b5, l1]) rfl ⟨rfl, ?_⟩
            (repeat' (first | with_reducible exact W1.out | with_reducible refine balloc ?_ _ | with_reducible refine bset ?_ ?_ _ | with_reducible refine Below.drew ?_)); all_goals omega
        · rw [if_neg hn] at hrun
          have hn1 : (N == 1) = false := by simpa using (by omega : ¬ N = 1)
          have hn2 : (N == 2) = false := by simpa using (by omega : ¬ N = 2)
          clear hn
          have HR1 := Lib.hid hrun
          clear hk hrun
          go_wp2_with fail
          have hT := HR1.out
          subst hT
          refine bodyPost_ret (v := .agg #[.int .i64 f, .int .i64 L, .int .i64 U, .int .i64 D, .int .i64 9, .int .i64 0]) (by simp [results, Try.results53, go_sem, b0, b1, b2, b3, b4, b5, l1]) rfl ⟨rfl, ?_⟩
          (repeat' (first | with_reducible exact W1.out | with_reducible refine balloc ?_ _ | with_reducible refine bset ?_ ?_ _ | with_reducible refine Below.drew ?_)); all_goals omega
      · simp at e0 e1 e2 hrun
        have HR1 := Lib.hid hrun
        clear hk hrun
        go_wp2_with fail
        have hT := HR1.out
        subst hT
        refine bodyPost_ret (v := .agg #[.int .i64 f, .int .i64 L, .int .i64 U, .int .i64 D, .int .i64 9, .int .i64 0]) (by simp [results, Try.results53, go_sem, b0, b1, b2, b3, b4, b5, l1]) rfl ⟨rfl, ?_⟩
        (repeat' (first | with_reducible exact W1.out | with_reducible refine balloc ?_ _ | with_reducible refine bset ?_ ?_ _ | with_reducible refine Below.drew ?_)); all_goals omega
    · obtain rfl : k = xs.length := by omega
      obtain ⟨⟨a0, a1, a2, a3, a4, a5⟩, g0, g1, g2, g3, g4, g5⟩ := cell_six hA
      obtain ⟨⟨b0, b1, b2, b3, b4, b5⟩, k0, k1, k2, k3, k4, k5⟩ := cell_six hB
      have l0 := lt_of_block hA; have l1 := lt_of_block hB
      rw [List.drop_length] at hrun
      simp only [run] at hrun
      clear hA hB hb
      have HR1 := Lib.hid hrun
      clear hk hrun
      go_wp2_with fail
      have hT := HR1.out
      subst hT
      refine bodyPost_ret (v := .agg #[.int .i64 f, .int .i64 L, .int .i64 U, .int .i64 D, .int .i64 0, .int .i64 0]) (by simp [results, Try.results53, go_sem, b0, b1, b2, b3, b4, b5]) rfl ⟨rfl, ?_⟩
      (repeat' (first | with_reducible exact W1.out | with_reducible refine balloc ?_ _ | with_reducible refine bset ?_ ?_ _ | with_reducible refine Below.drew ?_)); all_goals omega
end Go.Proofs.Ytpjccbbemhjgbaa
