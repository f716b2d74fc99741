import Derived.Test.YtogdhmbdackeeaaTb
import Derived.BigRegion
namespace Go.Proofs.Ytogdhmbdackeeaa
open Go.RowKit
set_option linter.unusedVariables false

theorem Rg.belowN {lo hi n : Nat} {a w w' : World} (h : Rg lo hi a w) (hb : Below n w w') (hn : a.heap.size ≤ n) (hlo : lo ≤ n) : Rg lo hi a w' :=
  ⟨h.low.trans (hb.mono hlo), Nat.le_trans h.high.size hb.size, fun k h1 h2 => (hb.block k (by omega)).trans (h.high.block k h1 h2)⟩
theorem cell_far {w : World} {b b' o o' : Nat} {v : Value} (h : b ≠ b') : (w.setCell ⟨b', o', none⟩ v).cell? ⟨b, o, none⟩ = w.cell? ⟨b, o, none⟩ := by
  simp only [World.cell?]; rw [heap_setCell_ne (by omega)]
theorem cell_far4 {w : World} {b b' o o1 o2 o3 o4 : Nat} {v1 v2 v3 v4 : Value} (h : b ≠ b') : ((((w.setCell ⟨b', o1, none⟩ v1).setCell ⟨b', o2, none⟩ v2).setCell ⟨b', o3, none⟩ v3).setCell ⟨b', o4, none⟩ v4).cell? ⟨b, o, none⟩ = w.cell? ⟨b, o, none⟩ := by
  rw [cell_far h, cell_far h, cell_far h, cell_far h]

set_option maxRecDepth 100000 in
set_option maxHeartbeats 4000000 in
theorem do_copy {w : World} {b K G : Nat} {B kind c N : Int} {v bs : Value} {A : List Int} (s : DS w b K B v A G) (hA : A.length ≤ 80000) (hk0 : 0 ≤ kind) (hk1 : kind ≤ 255) (hk : kind % 8 = 7) :
    Calls Try.prog 35 #[at0 b, rv K B v G, actv kind c N bs] w (DoRes b K B A.length w) := by
  obtain ⟨sa, cap, rfl, hcap⟩ := s.row.le
  have S0 := Lib.hid s
  have hbl : b < w.heap.size := s.buf.lt
  have X4 := Lib.hid (al (x := .cells #[.int .i64 0, .int .i64 0, .slice none 0 0, .int .i64 0] 72) (al (x := .cells #[.int .u8 kind, .int .u8 c, .int .i64 N, bs] 57) (nw (w := w) (o := .cells #[.int .i64 (K : Int), .int .i64 B, .slice sa A.length cap, .int .i64 (G : Int)] 72))))
  have X5 := Lib.hid (al (x := .cells #[.int .i64 0, .int .i64 0, .slice none 0 0, .int .i64 0] 72) (nwk (w := w.alloc (.cells #[.int .i64 (K : Int), .int .i64 B, .slice sa A.length cap, .int .i64 (G : Int)] 72)) (o := .cells #[.int .u8 kind, .int .u8 c, .int .i64 N, bs] 57) (k := w.heap.size + 1) (by simp)))
  have X6 := Lib.hid (nwk (w := (w.alloc (.cells #[.int .i64 (K : Int), .int .i64 B, .slice sa A.length cap, .int .i64 (G : Int)] 72)).alloc (.cells #[.int .u8 kind, .int .u8 c, .int .i64 N, bs] 57)) (o := .cells #[.int .i64 0, .int .i64 0, .slice none 0 0, .int .i64 0] 72) (k := w.heap.size + 1 + 1) (by simp))
  have B0 := Lib.hid (balloc (balloc (balloc (Below.refl _ w) (.cells #[.int .i64 (K : Int), .int .i64 B, .slice sa A.length cap, .int .i64 (G : Int)] 72)) (.cells #[.int .u8 kind, .int .u8 c, .int .i64 N, bs] 57)) (.cells #[.int .i64 0, .int .i64 0, .slice none 0 0, .int .i64 0] 72))
  have hk' : kind.tmod 8 = 7 := by rw [Int.tmod_eq_emod_of_nonneg hk0]; exact hk
  have hGl := s.hG
  have hb0 := s.b0
  have hb1 := s.b1
  have hsz := s.buf.size_le
  have hdl : (A.drop G).length = A.length - G := List.length_drop
  have OWN := Lib.hid (fun g h => (s.row.own_lt (g := g) h).2)
  clear s
  go_enter Try.func35, Try.ntmps35
  go_wp2_with fail
  refine (from_val (S := (K : Int)) (v := .slice sa A.length cap) (G := G) hb0 hb1 (by omega) _).mono ?_
  rintro e w1 ⟨rfl, hb⟩
  have S1 := Lib.hid ((S0.out.next (w' := _) (balloc (balloc (balloc (Below.refl _ w) (.cells #[.int .i64 (K : Int), .int .i64 B, .slice sa A.length cap, .int .i64 (G : Int)] 72)) (.cells #[.int .u8 kind, .int .u8 c, .int .i64 N, bs] 57)) (.cells #[.int .i64 0, .int .i64 0, .slice none 0 0, .int .i64 0] 72))).next hb)
  have Y4 := Lib.hid (carry hb X4.out); have Y5 := Lib.hid (carry hb X5.out); have Y6 := Lib.hid (carry hb X6.out)
  have W1 := Lib.hid (bnext B0.out hb)
  clear hb X4 X5 X6 B0
  obtain ⟨m0, m1, m2, m3⟩ := cell_4 Y4.out
  obtain ⟨n0, n1, n2, n3⟩ := cell_4 Y5.out
  have hw1 := W1.out.size
  have HDL := Lib.hid hdl
  have HSZ := Lib.hid hsz
  rw [hdl] at hsz
  clear hdl
  dsimp only
  obtain ⟨d0, d1, d2, d3⟩ := cell_4 Y6.out
  obtain ⟨e0, e1, e2, e3⟩ := free_4 Y6.out
  have l6 := lt_of_block Y6.out
  go_wp2_with fail
  have RG3 := Lib.hid (Rg.below (hi := b + 1) W1.out (Nat.le_of_lt hbl))
  have WF := Lib.hid (Below.refl w.heap.size w1)
  refine bodyPost_ret (v := .tuple #[rv K B (.slice sa A.length cap) G, .bool true]) (by simp [results, Try.results35, go_sem, d0, d1, d2, d3]) rfl ?_
  refine ⟨_, A, G, rfl, ⟨?_, ?_, S1.out.apart, hGl, S1.out.byt, hb0, hb1⟩, by omega, ?_⟩
  · refine Buf.under (n := w.heap.size) S1.out.buf ?_ hbl
    (repeat' (first | with_reducible exact WF.out | with_reducible refine Below.drew ?_ | with_reducible refine bset ?_ ?_ _ | with_reducible refine ballo ?_ ?_ _)); all_goals (first | omega | (simp; omega))
  · refine Row.lowN (n := w.heap.size) S1.out.row (fun g h => OWN.out g h) ?_
    (repeat' (first | with_reducible exact WF.out | with_reducible refine Below.drew ?_ | with_reducible refine bset ?_ ?_ _ | with_reducible refine ballo ?_ ?_ _)); all_goals (first | omega | (simp; omega))
  · (repeat' (first | with_reducible exact RG3.out | with_reducible refine Rg.drew ?_ | with_reducible refine Rg.setNew ?_ ?_ ?_ _ | with_reducible refine Rg.next ?_ (balloc (Below.refl _ _) _) ?_)); all_goals omega

set_option maxRecDepth 100000 in
set_option maxHeartbeats 4000000 in
theorem do_take_bad {w : World} {b K G : Nat} {B kind c N : Int} {v bs : Value} {A : List Int} (s : DS w b K B v A G) (hA : A.length ≤ 80000) (hk0 : 0 ≤ kind) (hk1 : kind ≤ 255) (hN : N < 0 ∨ ((A.length - G : Nat) : Int) < N) (hk : kind % 8 = 4) :
    Calls Try.prog 35 #[at0 b, rv K B v G, actv kind c N bs] w (DoRes b K B A.length w) := by
  obtain ⟨sa, cap, rfl, hcap⟩ := s.row.le
  have S0 := Lib.hid s
  have hbl : b < w.heap.size := s.buf.lt
  have X4 := Lib.hid (al (x := .cells #[.int .i64 0, .int .i64 0, .slice none 0 0, .int .i64 0] 72) (al (x := .cells #[.int .u8 kind, .int .u8 c, .int .i64 N, bs] 57) (nw (w := w) (o := .cells #[.int .i64 (K : Int), .int .i64 B, .slice sa A.length cap, .int .i64 (G : Int)] 72))))
  have X5 := Lib.hid (al (x := .cells #[.int .i64 0, .int .i64 0, .slice none 0 0, .int .i64 0] 72) (nwk (w := w.alloc (.cells #[.int .i64 (K : Int), .int .i64 B, .slice sa A.length cap, .int .i64 (G : Int)] 72)) (o := .cells #[.int .u8 kind, .int .u8 c, .int .i64 N, bs] 57) (k := w.heap.size + 1) (by simp)))
  have X6 := Lib.hid (nwk (w := (w.alloc (.cells #[.int .i64 (K : Int), .int .i64 B, .slice sa A.length cap, .int .i64 (G : Int)] 72)).alloc (.cells #[.int .u8 kind, .int .u8 c, .int .i64 N, bs] 57)) (o := .cells #[.int .i64 0, .int .i64 0, .slice none 0 0, .int .i64 0] 72) (k := w.heap.size + 1 + 1) (by simp))
  have B0 := Lib.hid (balloc (balloc (balloc (Below.refl _ w) (.cells #[.int .i64 (K : Int), .int .i64 B, .slice sa A.length cap, .int .i64 (G : Int)] 72)) (.cells #[.int .u8 kind, .int .u8 c, .int .i64 N, bs] 57)) (.cells #[.int .i64 0, .int .i64 0, .slice none 0 0, .int .i64 0] 72))
  have hk' : kind.tmod 8 = 4 := by rw [Int.tmod_eq_emod_of_nonneg hk0]; exact hk
  have hGl := s.hG
  have hb0 := s.b0
  have hb1 := s.b1
  have hsz := s.buf.size_le
  have hdl : (A.drop G).length = A.length - G := List.length_drop
  have OWN := Lib.hid (fun g h => (s.row.own_lt (g := g) h).2)
  clear s
  go_enter Try.func35, Try.ntmps35
  go_wp2_with fail
  refine (from_val (S := (K : Int)) (v := .slice sa A.length cap) (G := G) hb0 hb1 (by omega) _).mono ?_
  rintro e w1 ⟨rfl, hb⟩
  have S1 := Lib.hid ((S0.out.next (w' := _) (balloc (balloc (balloc (Below.refl _ w) (.cells #[.int .i64 (K : Int), .int .i64 B, .slice sa A.length cap, .int .i64 (G : Int)] 72)) (.cells #[.int .u8 kind, .int .u8 c, .int .i64 N, bs] 57)) (.cells #[.int .i64 0, .int .i64 0, .slice none 0 0, .int .i64 0] 72))).next hb)
  have Y4 := Lib.hid (carry hb X4.out); have Y5 := Lib.hid (carry hb X5.out); have Y6 := Lib.hid (carry hb X6.out)
  have W1 := Lib.hid (bnext B0.out hb)
  clear hb X4 X5 X6 B0
  obtain ⟨m0, m1, m2, m3⟩ := cell_4 Y4.out
  obtain ⟨n0, n1, n2, n3⟩ := cell_4 Y5.out
  have hw1 := W1.out.size
  have HDL := Lib.hid hdl
  have HSZ := Lib.hid hsz
  rw [hdl] at hsz
  clear hdl
  dsimp only
  go_wp2_with fail
  refine (btake_bad S1.out.buf (by rw [HDL.out]; exact hN)).mono ?_
  rintro e w2 ⟨rfl, hb⟩
  have hr : Rg b (b + 1) w1 w2 := Rg.below hb (by omega)
  have Z4 := Lib.hid (Rg.keep hr (.inr (by omega)) Y4.out)
  have Z5 := Lib.hid (Rg.keep hr (.inr (by omega)) Y5.out)
  have Z6 := Lib.hid (Rg.keep hr (.inr (by omega)) Y6.out)
  have RO2 := Lib.hid (S1.out.row.rgb S1.out.apart hr)
  have RG2 := Lib.hid ((Rg.below W1.out (Nat.le_of_lt hbl)).trans hr)
  have hw2 := RG2.out.high.size
  have BF2 := Lib.hid (S1.out.buf.next hb)
  clear hb
  clear hr
  clear m0 m1 m2 m3 n0 n1 n2 n3
  obtain ⟨m0, m1, m2, m3⟩ := cell_4 Z4.out
  obtain ⟨n0, n1, n2, n3⟩ := cell_4 Z5.out
  obtain ⟨d0, d1, d2, d3⟩ := cell_4 Z6.out
  obtain ⟨e0, e1, e2, e3⟩ := free_4 Z6.out
  have l6 := lt_of_block Z6.out
  have l5 := lt_of_block Z5.out
  have l4 := lt_of_block Z4.out
  dsimp only
  go_wp2_with fail
  refine (rtake_bad (S := (K : Int)) (B := B) hcap hGl hN _).mono ?_
  rintro e w3 ⟨rfl, hb⟩
  have hb2 : Below w2.heap.size w2 w3 := bnext (balloc (Below.refl _ w2) (.cells #[.int .i64 0, .int .i64 0] 31)) hb
  have BB3 := Lib.hid hb2
  have BF3 := Lib.hid (BF2.out.next hb2)
  have RG3 := Lib.hid (RG2.out.next hb2 (Nat.le_of_lt hbl))
  have RO3 := Lib.hid (RO2.out.next hb2)
  have T3 := Lib.hid (carry hb (nw (w := w2) (o := .cells #[.int .i64 0, .int .i64 0] 31)))
  have V4 := Lib.hid (carry hb2 Z4.out)
  have V5 := Lib.hid (carry hb2 Z5.out)
  have V6 := Lib.hid (carry hb2 Z6.out)
  have hw3 := hb2.size
  obtain ⟨t0, t1, f0, f1⟩ := cell_two T3.out
  have lt3 := lt_of_block T3.out
  clear hb hb2 d0 d1 d2 d3 e0 e1 e2 e3
  clear m0 m1 m2 m3 n0 n1 n2 n3
  obtain ⟨m0, m1, m2, m3⟩ := cell_4 V4.out
  obtain ⟨n0, n1, n2, n3⟩ := cell_4 V5.out
  obtain ⟨d0, d1, d2, d3⟩ := cell_4 V6.out
  obtain ⟨e0, e1, e2, e3⟩ := free_4 V6.out
  have l6 := lt_of_block V6.out
  have l5 := lt_of_block V5.out
  have l4 := lt_of_block V4.out
  dsimp only
  have QE := Lib.hid (fun w => equal_true (w := w) reads_nil reads_nil (by intro x hx; cases hx))
  go_wp2_with (go_at_call 19; refine (QE.out _).mono ?_; rintro e w4 ⟨rfl, rfl⟩)
  have P4 := Lib.hid (nw (w := w3) (o := (.cells #[.int .i64 (K : Int), .int .i64 B, .slice sa A.length cap, .int .i64 (G : Int)] 72)))
  have hb := balloc (Below.refl _ w3) (.cells #[.int .i64 (K : Int), .int .i64 B, .slice sa A.length cap, .int .i64 (G : Int)] 72)
  have BF4 := Lib.hid (BF3.out.next hb)
  have RG4 := Lib.hid (RG3.out.next hb (Nat.le_of_lt hbl))
  have RO4 := Lib.hid (RO3.out.next hb)
  have T4 := Lib.hid (carry hb T3.out)
  have U4 := Lib.hid (carry hb V4.out)
  have U5 := Lib.hid (carry hb V5.out)
  have U6 := Lib.hid (carry hb V6.out)
  have hw4 := hb.size
  generalize w3.alloc (.cells #[.int .i64 (K : Int), .int .i64 B, .slice sa A.length cap, .int .i64 (G : Int)] 72) = w4 at *
  clear hb d0 d1 d2 d3 e0 e1 e2 e3 t0 t1 f0 f1
  clear m0 m1 m2 m3 n0 n1 n2 n3
  obtain ⟨m0, m1, m2, m3⟩ := cell_4 U4.out
  obtain ⟨n0, n1, n2, n3⟩ := cell_4 U5.out
  obtain ⟨d0, d1, d2, d3⟩ := cell_4 U6.out
  obtain ⟨e0, e1, e2, e3⟩ := free_4 U6.out
  have l6 := lt_of_block U6.out
  have l5 := lt_of_block U5.out
  have l4 := lt_of_block U4.out
  obtain ⟨t0, t1, f0, f1⟩ := cell_two T4.out
  obtain ⟨q0, q1, q2, q3⟩ := cell_4 P4.out
  go_loopg [102] 0 (fun gk i wr => i = .int .i64 0 ∧ wr = w4)
  case atStart => exact ⟨rfl, rfl⟩
  case round =>
    obtain ⟨rfl, hwr⟩ := hrel
    subst hwr
    go_wp2_with fail
    have WF := Lib.hid (Below.refl w.heap.size wr)
    refine bodyPost_ret (v := .tuple #[rv K B (.slice sa A.length cap) G, .bool true]) (by simp [results, Try.results35, go_sem, d0, d1, d2, d3]) rfl ?_
    refine ⟨_, A, G, rfl, ⟨?_, ?_, S1.out.apart, hGl, S1.out.byt, hb0, hb1⟩, by omega, ?_⟩
    · refine Buf.under (n := w.heap.size) BF4.out ?_ hbl
      (repeat' (first | with_reducible exact WF.out | with_reducible refine Below.drew ?_ | with_reducible refine bset ?_ ?_ _ | with_reducible refine ballo ?_ ?_ _)); all_goals (first | omega | (simp; omega))
    · refine Row.lowN (n := w.heap.size) RO4.out (fun g h => OWN.out g h) ?_
      (repeat' (first | with_reducible exact WF.out | with_reducible refine Below.drew ?_ | with_reducible refine bset ?_ ?_ _ | with_reducible refine ballo ?_ ?_ _)); all_goals (first | omega | (simp; omega))
    · (repeat' (first | with_reducible exact RG4.out | with_reducible refine Rg.drew ?_ | with_reducible refine Rg.setNew ?_ ?_ ?_ _ | with_reducible refine Rg.next ?_ (balloc (Below.refl _ _) _) ?_)); all_goals omega

set_option maxRecDepth 100000 in
set_option maxHeartbeats 4000000 in
theorem do_take_ok {w : World} {b K G : Nat} {B kind c N : Int} {v bs : Value} {A : List Int} (s : DS w b K B v A G) (hA : A.length ≤ 80000) (hk0 : 0 ≤ kind) (hk1 : kind ≤ 255) {m : Nat} (hN : N = (m : Int)) (hm : m ≤ A.length - G) (hk : kind % 8 = 4) :
    Calls Try.prog 35 #[at0 b, rv K B v G, actv kind c N bs] w (DoRes b K B A.length w) := by
  subst hN
  obtain ⟨sa, cap, rfl, hcap⟩ := s.row.le
  have S0 := Lib.hid s
  have hbl : b < w.heap.size := s.buf.lt
  have X4 := Lib.hid (al (x := .cells #[.int .i64 0, .int .i64 0, .slice none 0 0, .int .i64 0] 72) (al (x := .cells #[.int .u8 kind, .int .u8 c, .int .i64 (m : Int), bs] 57) (nw (w := w) (o := .cells #[.int .i64 (K : Int), .int .i64 B, .slice sa A.length cap, .int .i64 (G : Int)] 72))))
  have X5 := Lib.hid (al (x := .cells #[.int .i64 0, .int .i64 0, .slice none 0 0, .int .i64 0] 72) (nwk (w := w.alloc (.cells #[.int .i64 (K : Int), .int .i64 B, .slice sa A.length cap, .int .i64 (G : Int)] 72)) (o := .cells #[.int .u8 kind, .int .u8 c, .int .i64 (m : Int), bs] 57) (k := w.heap.size + 1) (by simp)))
  have X6 := Lib.hid (nwk (w := (w.alloc (.cells #[.int .i64 (K : Int), .int .i64 B, .slice sa A.length cap, .int .i64 (G : Int)] 72)).alloc (.cells #[.int .u8 kind, .int .u8 c, .int .i64 (m : Int), bs] 57)) (o := .cells #[.int .i64 0, .int .i64 0, .slice none 0 0, .int .i64 0] 72) (k := w.heap.size + 1 + 1) (by simp))
  have B0 := Lib.hid (balloc (balloc (balloc (Below.refl _ w) (.cells #[.int .i64 (K : Int), .int .i64 B, .slice sa A.length cap, .int .i64 (G : Int)] 72)) (.cells #[.int .u8 kind, .int .u8 c, .int .i64 (m : Int), bs] 57)) (.cells #[.int .i64 0, .int .i64 0, .slice none 0 0, .int .i64 0] 72))
  have hk' : kind.tmod 8 = 4 := by rw [Int.tmod_eq_emod_of_nonneg hk0]; exact hk
  have hGl := s.hG
  have hb0 := s.b0
  have hb1 := s.b1
  have hsz := s.buf.size_le
  have hdl : (A.drop G).length = A.length - G := List.length_drop
  have OWN := Lib.hid (fun g h => (s.row.own_lt (g := g) h).2)
  clear s
  go_enter Try.func35, Try.ntmps35
  go_wp2_with fail
  refine (from_val (S := (K : Int)) (v := .slice sa A.length cap) (G := G) hb0 hb1 (by omega) _).mono ?_
  rintro e w1 ⟨rfl, hb⟩
  have S1 := Lib.hid ((S0.out.next (w' := _) (balloc (balloc (balloc (Below.refl _ w) (.cells #[.int .i64 (K : Int), .int .i64 B, .slice sa A.length cap, .int .i64 (G : Int)] 72)) (.cells #[.int .u8 kind, .int .u8 c, .int .i64 (m : Int), bs] 57)) (.cells #[.int .i64 0, .int .i64 0, .slice none 0 0, .int .i64 0] 72))).next hb)
  have Y4 := Lib.hid (carry hb X4.out); have Y5 := Lib.hid (carry hb X5.out); have Y6 := Lib.hid (carry hb X6.out)
  have W1 := Lib.hid (bnext B0.out hb)
  clear hb X4 X5 X6 B0
  obtain ⟨m0, m1, m2, m3⟩ := cell_4 Y4.out
  obtain ⟨n0, n1, n2, n3⟩ := cell_4 Y5.out
  have hw1 := W1.out.size
  have HDL := Lib.hid hdl
  have HSZ := Lib.hid hsz
  rw [hdl] at hsz
  clear hdl
  dsimp only
  go_wp2_with fail
  refine (btake (n := m) S1.out.buf (by rw [HDL.out]; exact hm)).mono ?_
  rintro e w2 ⟨v, rfl, hrow, hbf, hr⟩
  have BF2 := Lib.hid hbf
  have HRW := Lib.hid hrow
  obtain ⟨vo, vc, rfl, hvc⟩ := HRW.out.le
  have hvl : ((A.drop G).take m).length = m := by rw [List.length_take, HDL.out]; omega
  rw [hvl] at HRW hvc ⊢
  obtain ⟨E0, hE0⟩ : ∃ E0, E0 = (A.drop G).take m := ⟨_, rfl⟩
  have HE0 := Lib.hid hE0
  rw [← hE0] at HRW hvl
  have HVL := Lib.hid hvl
  clear hbf hrow hE0
  have Z4 := Lib.hid (Rg.keep hr (.inr (by omega)) Y4.out)
  have Z5 := Lib.hid (Rg.keep hr (.inr (by omega)) Y5.out)
  have Z6 := Lib.hid (Rg.keep hr (.inr (by omega)) Y6.out)
  have RO2 := Lib.hid (S1.out.row.rgb S1.out.apart hr)
  have RG2 := Lib.hid ((Rg.below W1.out (Nat.le_of_lt hbl)).trans hr)
  have hw2 := RG2.out.high.size
  have hw12 := hr.high.size
  have HVO := Lib.hid (fun g h => HRW.out.own_lt (g := g) h)
  clear hr
  have l6a := lt_of_block Y6.out
  clear m0 m1 m2 m3 n0 n1 n2 n3
  obtain ⟨m0, m1, m2, m3⟩ := cell_4 Z4.out
  obtain ⟨n0, n1, n2, n3⟩ := cell_4 Z5.out
  obtain ⟨d0, d1, d2, d3⟩ := cell_4 Z6.out
  obtain ⟨e0, e1, e2, e3⟩ := free_4 Z6.out
  have l6 := lt_of_block Z6.out
  have l5 := lt_of_block Z5.out
  have l4 := lt_of_block Z4.out
  dsimp only
  go_wp2_with fail
  refine (rtake_ok (S := (K : Int)) (B := B) (m := m) hcap hGl (by omega) hm _).mono ?_
  rintro e w3 ⟨rfl, hb⟩
  have hb2 : Below w2.heap.size w2 w3 := bnext (balloc (Below.refl _ w2) (.cells #[.int .i64 (B + (G : Int)), .int .i64 (B + (G : Int) + (m : Int))] 31)) hb
  have BB3 := Lib.hid hb2
  have BF3 := Lib.hid (BF2.out.next hb2)
  have RG3 := Lib.hid (RG2.out.next hb2 (Nat.le_of_lt hbl))
  have RO3 := Lib.hid (RO2.out.next hb2)
  have T3 := Lib.hid (carry hb (nw (w := w2) (o := .cells #[.int .i64 (B + (G : Int)), .int .i64 (B + (G : Int) + (m : Int))] 31)))
  have V4 := Lib.hid (carry hb2 Z4.out)
  have V5 := Lib.hid (carry hb2 Z5.out)
  have V6 := Lib.hid (carry hb2 Z6.out)
  have hw3 := hb2.size
  obtain ⟨t0, t1, f0, f1⟩ := cell_two T3.out
  have lt3 := lt_of_block T3.out
  clear hb hb2 d0 d1 d2 d3 e0 e1 e2 e3
  clear m0 m1 m2 m3 n0 n1 n2 n3
  obtain ⟨m0, m1, m2, m3⟩ := cell_4 V4.out
  obtain ⟨n0, n1, n2, n3⟩ := cell_4 V5.out
  obtain ⟨d0, d1, d2, d3⟩ := cell_4 V6.out
  obtain ⟨e0, e1, e2, e3⟩ := free_4 V6.out
  have l6 := lt_of_block V6.out
  have l5 := lt_of_block V5.out
  have l4 := lt_of_block V4.out
  dsimp only
  have HRW3 := Lib.hid (HRW.out.next (show Below w2.heap.size w2 w3 from BB3.out))
  have RD := Lib.hid (show Reads w3 (.slice (tailA sa cap G) m (cap - G)) E0 by
    have := (RO3.out.reads).sub (lo := G) (k := m) hcap (by omega)
    rw [HE0.out]; exact this)
  have BE := Lib.hid (show Bytes E0 by rw [HE0.out]; exact fun x hx => S1.out.byt x (List.mem_of_mem_drop (List.mem_of_mem_take hx)))
  have QE := Lib.hid (fun (w : World) (hb : Below w3.heap.size w3 w) => equal_true (w := w) (HRW3.out.reads.next hb) (RD.out.next hb) BE.out)
  obtain ⟨ta, hta⟩ : ∃ ta, ta = tailA sa cap G := ⟨_, rfl⟩
  obtain ⟨cap2, hcap2⟩ : ∃ cap2, cap2 = cap - G := ⟨_, rfl⟩
  obtain ⟨GG, hGG⟩ : ∃ GG : Int, GG = ((G + m : Nat) : Int) := ⟨_, rfl⟩
  rw [← hta, ← hcap2] at QE RD
  rw [← hta, ← hcap2, ← hGG]
  have HGG := Lib.hid hGG
  have hsum : IntKind.i64.wrap (B + (G : Int) + (m : Int)) = B + (G : Int) + (m : Int) := IntWalk.i64_in _ (by omega)
  clear hta hcap2 hGG
  go_wp2_with (go_at_call 19; refine (QE.out _ (balloc (Below.refl _ _) _)).mono ?_; rintro e w4 ⟨rfl, rfl⟩)
  have HV4 := Lib.hid (HRW3.out.next (balloc (Below.refl _ w3) (.cells #[.int .i64 (K : Int), .int .i64 B, .slice sa A.length cap, .int .i64 GG] 72)))
  have P4 := Lib.hid (nw (w := w3) (o := (.cells #[.int .i64 (K : Int), .int .i64 B, .slice sa A.length cap, .int .i64 GG] 72)))
  have hb := balloc (Below.refl _ w3) (.cells #[.int .i64 (K : Int), .int .i64 B, .slice sa A.length cap, .int .i64 GG] 72)
  have BF4 := Lib.hid (BF3.out.next hb)
  have RG4 := Lib.hid (RG3.out.next hb (Nat.le_of_lt hbl))
  have RO4 := Lib.hid (RO3.out.next hb)
  have T4 := Lib.hid (carry hb T3.out)
  have U4 := Lib.hid (carry hb V4.out)
  have U5 := Lib.hid (carry hb V5.out)
  have U6 := Lib.hid (carry hb V6.out)
  have hw4 := hb.size
  generalize w3.alloc (.cells #[.int .i64 (K : Int), .int .i64 B, .slice sa A.length cap, .int .i64 GG] 72) = w4 at *
  clear hb d0 d1 d2 d3 e0 e1 e2 e3 t0 t1 f0 f1
  clear m0 m1 m2 m3 n0 n1 n2 n3
  obtain ⟨m0, m1, m2, m3⟩ := cell_4 U4.out
  obtain ⟨n0, n1, n2, n3⟩ := cell_4 U5.out
  obtain ⟨d0, d1, d2, d3⟩ := cell_4 U6.out
  obtain ⟨e0, e1, e2, e3⟩ := free_4 U6.out
  have l6 := lt_of_block U6.out
  have l5 := lt_of_block U5.out
  have l4 := lt_of_block U4.out
  obtain ⟨t0, t1, f0, f1⟩ := cell_two T4.out
  obtain ⟨q0, q1, q2, q3⟩ := cell_4 P4.out
  go_loopg [102] m (fun gk i wr => ∃ (k : Nat) (l : List Int), k + gk = m ∧ i = .int .i64 k ∧ Row wr w1.heap.size (.slice vo m vc) l ∧ l.length = m ∧ Below w1.heap.size w4 wr ∧ wr.heap[w3.heap.size]? = some (.cells #[.int .i64 (K : Int), .int .i64 B, .slice sa A.length cap, .int .i64 GG] 72))
  case atStart => exact ⟨0, _, by omega, rfl, HV4.out, HVL.out, Below.refl _ _, P4.out⟩
  case round =>
    obtain ⟨k, l, hk, rfl, hl, hll, hb, hp⟩ := hrel
    have HK := Lib.hid hk; have HLL := Lib.hid hll; have W5 := Lib.hid hb; have P5 := Lib.hid hp
    by_cases hlt : k < m
    · obtain ⟨g, rfl⟩ := row_some hl (j := k) (by omega)
      have hs := fun y => (Row.setAt (j := k) (y := y) hl (by omega)).1
      obtain ⟨_, c5, f5, hg⟩ := Row.setAt (j := k) (y := 0) hl (by omega)
      have HS := Lib.hid hs
      have HG := Lib.hid (show w1.heap.size ≤ g ∧ g < w2.heap.size from ⟨hg, (HVO.out g rfl).2⟩)
      clear hs hk hll hb hp hl hg
      go_wp2_with fail
      have hk := HK.out
      go_roundg (gk - 1)
      case rel =>
        have hgg := HG.out
        exact ⟨k + 1, l.set k _, by omega, by simp, HS.out _, by rw [List.length_set]; exact HLL.out, bset W5.out hgg.1 _, (heap_setCell_ne (by omega)).trans P5.out⟩
      case measure => omega
    · obtain rfl : k = m := by omega
      have BF5 := Lib.hid (BF4.out.under W5.out (by omega))
      have RO5 := Lib.hid (RO4.out.lowN (fun g h => Nat.lt_of_lt_of_le (OWN.out g h) hw1) W5.out)
      have RG5 := Lib.hid (RG4.out.belowN W5.out hw1 (by omega))
      have U6a := Lib.hid ((W5.out.block _ l6a).trans U6.out)
      have U5a := Lib.hid ((W5.out.block _ (by omega)).trans U5.out)
      have W6 := Lib.hid (W5.out.mono hw1)
      clear hk hll hb hl hp m0 m1 m2 m3 n0 n1 n2 n3 d0 d1 d2 d3 e0 e1 e2 e3 q0 q1 q2 q3
      obtain ⟨d0, d1, d2, d3⟩ := cell_4 U6a.out
      obtain ⟨e0, e1, e2, e3⟩ := free_4 U6a.out
      have l6 := lt_of_block U6a.out
      obtain ⟨q0, q1, q2, q3⟩ := cell_4 P5.out
      go_wp2_with fail
      have WF := Lib.hid (Below.refl w.heap.size wr)
      refine bodyPost_ret (v := .tuple #[rv K B (.slice sa A.length cap) GG, .bool true]) (by simp [results, Try.results35, go_sem, d0, d1, d2, d3]) rfl ?_
      refine ⟨_, A, G + k, by rw [HGG.out], ⟨?_, ?_, S1.out.apart, by omega, S1.out.byt, hb0, hb1⟩, by omega, ?_⟩
      · rw [show B + ((G + k : Nat) : Int) = B + (G : Int) + (k : Int) by omega, ← List.drop_drop]
        refine Buf.under (n := w.heap.size) BF5.out ?_ hbl
        (repeat' (first | with_reducible exact WF.out | with_reducible refine Below.drew ?_ | with_reducible refine bset ?_ ?_ _ | with_reducible refine ballo ?_ ?_ _)); all_goals (first | omega | (simp; omega))
      · refine Row.lowN (n := w.heap.size) RO5.out (fun g h => OWN.out g h) ?_
        (repeat' (first | with_reducible exact WF.out | with_reducible refine Below.drew ?_ | with_reducible refine bset ?_ ?_ _ | with_reducible refine ballo ?_ ?_ _)); all_goals (first | omega | (simp; omega))
      · (repeat' (first | with_reducible exact RG5.out | with_reducible refine Rg.drew ?_ | with_reducible refine Rg.setNew ?_ ?_ ?_ _ | with_reducible refine Rg.next ?_ (balloc (Below.refl _ _) _) ?_)); all_goals omega

set_option maxRecDepth 100000 in
set_option maxHeartbeats 4000000 in
theorem do_disc_room {w : World} {b K G : Nat} {B kind c N : Int} {v bs : Value} {A : List Int} (s : DS w b K B v A G) (hA : A.length ≤ 80000) (hk0 : 0 ≤ kind) (hk1 : kind ≤ 255) (hf : A.length - G ≠ K) (hk : kind % 8 = 5) :
    Calls Try.prog 35 #[at0 b, rv K B v G, actv kind c N bs] w (DoRes b K B A.length w) := by
  obtain ⟨sa, cap, rfl, hcap⟩ := s.row.le
  have S0 := Lib.hid s
  have hbl : b < w.heap.size := s.buf.lt
  have X4 := Lib.hid (al (x := .cells #[.int .i64 0, .int .i64 0, .slice none 0 0, .int .i64 0] 72) (al (x := .cells #[.int .u8 kind, .int .u8 c, .int .i64 N, bs] 57) (nw (w := w) (o := .cells #[.int .i64 (K : Int), .int .i64 B, .slice sa A.length cap, .int .i64 (G : Int)] 72))))
  have X5 := Lib.hid (al (x := .cells #[.int .i64 0, .int .i64 0, .slice none 0 0, .int .i64 0] 72) (nwk (w := w.alloc (.cells #[.int .i64 (K : Int), .int .i64 B, .slice sa A.length cap, .int .i64 (G : Int)] 72)) (o := .cells #[.int .u8 kind, .int .u8 c, .int .i64 N, bs] 57) (k := w.heap.size + 1) (by simp)))
  have X6 := Lib.hid (nwk (w := (w.alloc (.cells #[.int .i64 (K : Int), .int .i64 B, .slice sa A.length cap, .int .i64 (G : Int)] 72)).alloc (.cells #[.int .u8 kind, .int .u8 c, .int .i64 N, bs] 57)) (o := .cells #[.int .i64 0, .int .i64 0, .slice none 0 0, .int .i64 0] 72) (k := w.heap.size + 1 + 1) (by simp))
  have B0 := Lib.hid (balloc (balloc (balloc (Below.refl _ w) (.cells #[.int .i64 (K : Int), .int .i64 B, .slice sa A.length cap, .int .i64 (G : Int)] 72)) (.cells #[.int .u8 kind, .int .u8 c, .int .i64 N, bs] 57)) (.cells #[.int .i64 0, .int .i64 0, .slice none 0 0, .int .i64 0] 72))
  have hk' : kind.tmod 8 = 5 := by rw [Int.tmod_eq_emod_of_nonneg hk0]; exact hk
  have hGl := s.hG
  have hb0 := s.b0
  have hb1 := s.b1
  have hsz := s.buf.size_le
  have hdl : (A.drop G).length = A.length - G := List.length_drop
  have OWN := Lib.hid (fun g h => (s.row.own_lt (g := g) h).2)
  clear s
  go_enter Try.func35, Try.ntmps35
  go_wp2_with fail
  refine (from_val (S := (K : Int)) (v := .slice sa A.length cap) (G := G) hb0 hb1 (by omega) _).mono ?_
  rintro e w1 ⟨rfl, hb⟩
  have S1 := Lib.hid ((S0.out.next (w' := _) (balloc (balloc (balloc (Below.refl _ w) (.cells #[.int .i64 (K : Int), .int .i64 B, .slice sa A.length cap, .int .i64 (G : Int)] 72)) (.cells #[.int .u8 kind, .int .u8 c, .int .i64 N, bs] 57)) (.cells #[.int .i64 0, .int .i64 0, .slice none 0 0, .int .i64 0] 72))).next hb)
  have Y4 := Lib.hid (carry hb X4.out); have Y5 := Lib.hid (carry hb X5.out); have Y6 := Lib.hid (carry hb X6.out)
  have W1 := Lib.hid (bnext B0.out hb)
  clear hb X4 X5 X6 B0
  obtain ⟨m0, m1, m2, m3⟩ := cell_4 Y4.out
  obtain ⟨n0, n1, n2, n3⟩ := cell_4 Y5.out
  have hw1 := W1.out.size
  have HDL := Lib.hid hdl
  have HSZ := Lib.hid hsz
  rw [hdl] at hsz
  clear hdl
  dsimp only
  have HF := Lib.hid hf
  clear hf
  go_wp2_with fail
  refine (bdiscard_room S1.out.buf (by rw [HDL.out]; have := HF.out; omega)).mono ?_
  rintro e w2 ⟨rfl, hb⟩
  have hr : Rg b (b + 1) w1 w2 := Rg.below hb (by omega)
  have Z4 := Lib.hid (Rg.keep hr (.inr (by omega)) Y4.out)
  have Z5 := Lib.hid (Rg.keep hr (.inr (by omega)) Y5.out)
  have Z6 := Lib.hid (Rg.keep hr (.inr (by omega)) Y6.out)
  have RO2 := Lib.hid (S1.out.row.rgb S1.out.apart hr)
  have RG2 := Lib.hid ((Rg.below W1.out (Nat.le_of_lt hbl)).trans hr)
  have hw2 := RG2.out.high.size
  have BF2 := Lib.hid (S1.out.buf.next hb)
  clear hb
  clear hr
  clear m0 m1 m2 m3 n0 n1 n2 n3
  obtain ⟨m0, m1, m2, m3⟩ := cell_4 Z4.out
  obtain ⟨n0, n1, n2, n3⟩ := cell_4 Z5.out
  obtain ⟨d0, d1, d2, d3⟩ := cell_4 Z6.out
  obtain ⟨e0, e1, e2, e3⟩ := free_4 Z6.out
  have l6 := lt_of_block Z6.out
  have l5 := lt_of_block Z5.out
  have l4 := lt_of_block Z4.out
  dsimp only
  go_wp2_with fail
  refine (rdisc_room (S := (K : Int)) (B := B) hcap hGl (by have := HF.out; omega) _).mono ?_
  rintro e w3 ⟨rfl, hb⟩
  have hb2 : Below w2.heap.size w2 w3 := bnext (balloc (Below.refl _ w2) (.cells #[.int .i64 0, .int .i64 0] 31)) hb
  have BB3 := Lib.hid hb2
  have BF3 := Lib.hid (BF2.out.next hb2)
  have RG3 := Lib.hid (RG2.out.next hb2 (Nat.le_of_lt hbl))
  have RO3 := Lib.hid (RO2.out.next hb2)
  have T3 := Lib.hid (carry hb (nw (w := w2) (o := .cells #[.int .i64 0, .int .i64 0] 31)))
  have V4 := Lib.hid (carry hb2 Z4.out)
  have V5 := Lib.hid (carry hb2 Z5.out)
  have V6 := Lib.hid (carry hb2 Z6.out)
  have hw3 := hb2.size
  obtain ⟨t0, t1, f0, f1⟩ := cell_two T3.out
  have lt3 := lt_of_block T3.out
  clear hb hb2 d0 d1 d2 d3 e0 e1 e2 e3
  clear m0 m1 m2 m3 n0 n1 n2 n3
  obtain ⟨m0, m1, m2, m3⟩ := cell_4 V4.out
  obtain ⟨n0, n1, n2, n3⟩ := cell_4 V5.out
  obtain ⟨d0, d1, d2, d3⟩ := cell_4 V6.out
  obtain ⟨e0, e1, e2, e3⟩ := free_4 V6.out
  have l6 := lt_of_block V6.out
  have l5 := lt_of_block V5.out
  have l4 := lt_of_block V4.out
  dsimp only
  go_upto_region 23 with fail
  have P4 := Lib.hid (nw (w := w3) (o := (.cells #[.int .i64 (K : Int), .int .i64 B, .slice sa A.length cap, .int .i64 (G : Int)] 72)))
  have hb := balloc (Below.refl _ w3) (.cells #[.int .i64 (K : Int), .int .i64 B, .slice sa A.length cap, .int .i64 (G : Int)] 72)
  have BF4 := Lib.hid (BF3.out.next hb)
  have RG4 := Lib.hid (RG3.out.next hb (Nat.le_of_lt hbl))
  have RO4 := Lib.hid (RO3.out.next hb)
  have T4 := Lib.hid (carry hb T3.out)
  have U4 := Lib.hid (carry hb V4.out)
  have U5 := Lib.hid (carry hb V5.out)
  have U6 := Lib.hid (carry hb V6.out)
  have hw4 := hb.size
  generalize w3.alloc (.cells #[.int .i64 (K : Int), .int .i64 B, .slice sa A.length cap, .int .i64 (G : Int)] 72) = w4 at *
  clear hb d0 d1 d2 d3 e0 e1 e2 e3 t0 t1 f0 f1
  clear m0 m1 m2 m3 n0 n1 n2 n3
  obtain ⟨m0, m1, m2, m3⟩ := cell_4 U4.out
  obtain ⟨n0, n1, n2, n3⟩ := cell_4 U5.out
  obtain ⟨d0, d1, d2, d3⟩ := cell_4 U6.out
  obtain ⟨e0, e1, e2, e3⟩ := free_4 U6.out
  have l6 := lt_of_block U6.out
  have l5 := lt_of_block U5.out
  have l4 := lt_of_block U4.out
  obtain ⟨t0, t1, f0, f1⟩ := cell_two T4.out
  obtain ⟨q0, q1, q2, q3⟩ := cell_4 P4.out
  clear BF3 RG3 RO3 T3 V4 V5 V6 Z4 Z5 Z6 Y4 Y5 Y6
  go_region
  have WF := Lib.hid (Below.refl w.heap.size w4)
  go_wp2_with fail
  refine bodyPost_ret (v := .tuple #[rv K B (.slice sa A.length cap) G, .bool true]) (by simp [results, Try.results35, go_sem, d0, d1, d2, d3]) rfl ?_
  refine ⟨_, A, G, rfl, ⟨?_, ?_, S1.out.apart, hGl, S1.out.byt, hb0, hb1⟩, by omega, ?_⟩
  · refine Buf.under (n := w.heap.size) BF4.out ?_ hbl
    (repeat' (first | with_reducible exact WF.out | with_reducible refine Below.drew ?_ | with_reducible refine bset ?_ ?_ _ | with_reducible refine ballo ?_ ?_ _)); all_goals (first | omega | (simp; omega))
  · refine Row.lowN (n := w.heap.size) RO4.out (fun g h => OWN.out g h) ?_
    (repeat' (first | with_reducible exact WF.out | with_reducible refine Below.drew ?_ | with_reducible refine bset ?_ ?_ _ | with_reducible refine ballo ?_ ?_ _)); all_goals (first | omega | (simp; omega))
  · (repeat' (first | with_reducible exact RG4.out | with_reducible refine Rg.drew ?_ | with_reducible refine Rg.setNew ?_ ?_ ?_ _ | with_reducible refine Rg.next ?_ (balloc (Below.refl _ _) _) ?_)); all_goals omega

set_option maxRecDepth 100000 in
set_option maxHeartbeats 4000000 in
theorem do_disc_ok {w : World} {b K G : Nat} {B kind c N : Int} {v bs : Value} {A : List Int} (s : DS w b K B v A G) (hA : A.length ≤ 80000) (hk0 : 0 ≤ kind) (hk1 : kind ≤ 255) {Q : Nat} (hQ : Q = (K + 1) / 2) (hf : A.length - G = K) (hk : kind % 8 = 5) :
    Calls Try.prog 35 #[at0 b, rv K B v G, actv kind c N bs] w (DoRes b K B A.length w) := by
  obtain ⟨sa, cap, rfl, hcap⟩ := s.row.le
  have S0 := Lib.hid s
  have hbl : b < w.heap.size := s.buf.lt
  have X4 := Lib.hid (al (x := .cells #[.int .i64 0, .int .i64 0, .slice none 0 0, .int .i64 0] 72) (al (x := .cells #[.int .u8 kind, .int .u8 c, .int .i64 N, bs] 57) (nw (w := w) (o := .cells #[.int .i64 (K : Int), .int .i64 B, .slice sa A.length cap, .int .i64 (G : Int)] 72))))
  have X5 := Lib.hid (al (x := .cells #[.int .i64 0, .int .i64 0, .slice none 0 0, .int .i64 0] 72) (nwk (w := w.alloc (.cells #[.int .i64 (K : Int), .int .i64 B, .slice sa A.length cap, .int .i64 (G : Int)] 72)) (o := .cells #[.int .u8 kind, .int .u8 c, .int .i64 N, bs] 57) (k := w.heap.size + 1) (by simp)))
  have X6 := Lib.hid (nwk (w := (w.alloc (.cells #[.int .i64 (K : Int), .int .i64 B, .slice sa A.length cap, .int .i64 (G : Int)] 72)).alloc (.cells #[.int .u8 kind, .int .u8 c, .int .i64 N, bs] 57)) (o := .cells #[.int .i64 0, .int .i64 0, .slice none 0 0, .int .i64 0] 72) (k := w.heap.size + 1 + 1) (by simp))
  have B0 := Lib.hid (balloc (balloc (balloc (Below.refl _ w) (.cells #[.int .i64 (K : Int), .int .i64 B, .slice sa A.length cap, .int .i64 (G : Int)] 72)) (.cells #[.int .u8 kind, .int .u8 c, .int .i64 N, bs] 57)) (.cells #[.int .i64 0, .int .i64 0, .slice none 0 0, .int .i64 0] 72))
  have hk' : kind.tmod 8 = 5 := by rw [Int.tmod_eq_emod_of_nonneg hk0]; exact hk
  have hGl := s.hG
  have hb0 := s.b0
  have hb1 := s.b1
  have hsz := s.buf.size_le
  have hdl : (A.drop G).length = A.length - G := List.length_drop
  have OWN := Lib.hid (fun g h => (s.row.own_lt (g := g) h).2)
  clear s
  go_enter Try.func35, Try.ntmps35
  go_wp2_with fail
  refine (from_val (S := (K : Int)) (v := .slice sa A.length cap) (G := G) hb0 hb1 (by omega) _).mono ?_
  rintro e w1 ⟨rfl, hb⟩
  have S1 := Lib.hid ((S0.out.next (w' := _) (balloc (balloc (balloc (Below.refl _ w) (.cells #[.int .i64 (K : Int), .int .i64 B, .slice sa A.length cap, .int .i64 (G : Int)] 72)) (.cells #[.int .u8 kind, .int .u8 c, .int .i64 N, bs] 57)) (.cells #[.int .i64 0, .int .i64 0, .slice none 0 0, .int .i64 0] 72))).next hb)
  have Y4 := Lib.hid (carry hb X4.out); have Y5 := Lib.hid (carry hb X5.out); have Y6 := Lib.hid (carry hb X6.out)
  have W1 := Lib.hid (bnext B0.out hb)
  clear hb X4 X5 X6 B0
  obtain ⟨m0, m1, m2, m3⟩ := cell_4 Y4.out
  obtain ⟨n0, n1, n2, n3⟩ := cell_4 Y5.out
  have hw1 := W1.out.size
  have HDL := Lib.hid hdl
  have HSZ := Lib.hid hsz
  rw [hdl] at hsz
  clear hdl
  dsimp only
  have HF := Lib.hid hf
  have HQ := Lib.hid hQ
  have hQb : Q ≤ 256 := by omega
  have hQG : Q ≤ A.length - G := by omega
  clear hf hQ
  go_wp2_with fail
  refine (bdiscardK (Q := Q) S1.out.buf (by rw [HDL.out, HF.out]) HQ.out).mono ?_
  rintro e w2 ⟨rfl, hbf, hr⟩
  have BF2 := Lib.hid hbf
  clear hbf
  have Z4 := Lib.hid (Rg.keep hr (.inr (by omega)) Y4.out)
  have Z5 := Lib.hid (Rg.keep hr (.inr (by omega)) Y5.out)
  have Z6 := Lib.hid (Rg.keep hr (.inr (by omega)) Y6.out)
  have RO2 := Lib.hid (S1.out.row.rgb S1.out.apart hr)
  have RG2 := Lib.hid ((Rg.below W1.out (Nat.le_of_lt hbl)).trans hr)
  have hw2 := RG2.out.high.size
  clear hr
  clear m0 m1 m2 m3 n0 n1 n2 n3
  obtain ⟨m0, m1, m2, m3⟩ := cell_4 Z4.out
  obtain ⟨n0, n1, n2, n3⟩ := cell_4 Z5.out
  obtain ⟨d0, d1, d2, d3⟩ := cell_4 Z6.out
  obtain ⟨e0, e1, e2, e3⟩ := free_4 Z6.out
  have l6 := lt_of_block Z6.out
  have l5 := lt_of_block Z5.out
  have l4 := lt_of_block Z4.out
  dsimp only
  go_wp2_with fail
  refine (rdisc_ok (K := K) (Q := Q) (B := B) hcap hGl (by omega) (by omega) HQ.out (by rw [HF.out]) _).mono ?_
  rintro e w3 ⟨rfl, hb⟩
  have hb2 : Below w2.heap.size w2 w3 := bnext (balloc (Below.refl _ w2) (.cells #[.int .i64 (B + (G : Int)), .int .i64 (B + (G : Int) + (Q : Int))] 31)) hb
  have BB3 := Lib.hid hb2
  have BF3 := Lib.hid (BF2.out.next hb2)
  have RG3 := Lib.hid (RG2.out.next hb2 (Nat.le_of_lt hbl))
  have RO3 := Lib.hid (RO2.out.next hb2)
  have T3 := Lib.hid (carry hb (nw (w := w2) (o := .cells #[.int .i64 (B + (G : Int)), .int .i64 (B + (G : Int) + (Q : Int))] 31)))
  have V4 := Lib.hid (carry hb2 Z4.out)
  have V5 := Lib.hid (carry hb2 Z5.out)
  have V6 := Lib.hid (carry hb2 Z6.out)
  have hw3 := hb2.size
  obtain ⟨t0, t1, f0, f1⟩ := cell_two T3.out
  have lt3 := lt_of_block T3.out
  clear hb hb2 d0 d1 d2 d3 e0 e1 e2 e3
  clear m0 m1 m2 m3 n0 n1 n2 n3
  obtain ⟨m0, m1, m2, m3⟩ := cell_4 V4.out
  obtain ⟨n0, n1, n2, n3⟩ := cell_4 V5.out
  obtain ⟨d0, d1, d2, d3⟩ := cell_4 V6.out
  obtain ⟨e0, e1, e2, e3⟩ := free_4 V6.out
  have l6 := lt_of_block V6.out
  have l5 := lt_of_block V5.out
  have l4 := lt_of_block V4.out
  dsimp only
  obtain ⟨GG, hGG⟩ : ∃ GG : Int, GG = ((G + Q : Nat) : Int) := ⟨_, rfl⟩
  rw [← hGG]
  have HGG := Lib.hid hGG
  have hsum : IntKind.i64.wrap (B + (G : Int) + (Q : Int)) = B + (G : Int) + (Q : Int) := IntWalk.i64_in _ (by omega)
  clear hGG
  go_upto_region 23 with fail
  have P4 := Lib.hid (nw (w := w3) (o := (.cells #[.int .i64 (K : Int), .int .i64 B, .slice sa A.length cap, .int .i64 GG] 72)))
  have hb := balloc (Below.refl _ w3) (.cells #[.int .i64 (K : Int), .int .i64 B, .slice sa A.length cap, .int .i64 GG] 72)
  have BF4 := Lib.hid (BF3.out.next hb)
  have RG4 := Lib.hid (RG3.out.next hb (Nat.le_of_lt hbl))
  have RO4 := Lib.hid (RO3.out.next hb)
  have T4 := Lib.hid (carry hb T3.out)
  have U4 := Lib.hid (carry hb V4.out)
  have U5 := Lib.hid (carry hb V5.out)
  have U6 := Lib.hid (carry hb V6.out)
  have hw4 := hb.size
  generalize w3.alloc (.cells #[.int .i64 (K : Int), .int .i64 B, .slice sa A.length cap, .int .i64 GG] 72) = w4 at *
  clear hb d0 d1 d2 d3 e0 e1 e2 e3 t0 t1 f0 f1
  clear m0 m1 m2 m3 n0 n1 n2 n3
  obtain ⟨m0, m1, m2, m3⟩ := cell_4 U4.out
  obtain ⟨n0, n1, n2, n3⟩ := cell_4 U5.out
  obtain ⟨d0, d1, d2, d3⟩ := cell_4 U6.out
  obtain ⟨e0, e1, e2, e3⟩ := free_4 U6.out
  have l6 := lt_of_block U6.out
  have l5 := lt_of_block U5.out
  have l4 := lt_of_block U4.out
  obtain ⟨t0, t1, f0, f1⟩ := cell_two T4.out
  obtain ⟨q0, q1, q2, q3⟩ := cell_4 P4.out
  clear BF3 RG3 RO3 T3 V4 V5 V6 Z4 Z5 Z6 Y4 Y5 Y6
  go_region
  have WF := Lib.hid (Below.refl w.heap.size w4)
  go_wp2_with fail
  refine bodyPost_ret (v := .tuple #[rv K B (.slice sa A.length cap) GG, .bool true]) (by simp [results, Try.results35, go_sem, d0, d1, d2, d3]) rfl ?_
  refine ⟨_, A, G + Q, by rw [HGG.out], ⟨?_, ?_, S1.out.apart, by omega, S1.out.byt, hb0, hb1⟩, by omega, ?_⟩
  · rw [show B + ((G + Q : Nat) : Int) = B + (G : Int) + (Q : Int) by omega, ← List.drop_drop]
    refine Buf.under (n := w.heap.size) BF4.out ?_ hbl
    (repeat' (first | with_reducible exact WF.out | with_reducible refine Below.drew ?_ | with_reducible refine bset ?_ ?_ _ | with_reducible refine ballo ?_ ?_ _)); all_goals (first | omega | (simp; omega))
  · refine Row.lowN (n := w.heap.size) RO4.out (fun g h => OWN.out g h) ?_
    (repeat' (first | with_reducible exact WF.out | with_reducible refine Below.drew ?_ | with_reducible refine bset ?_ ?_ _ | with_reducible refine ballo ?_ ?_ _)); all_goals (first | omega | (simp; omega))
  · (repeat' (first | with_reducible exact RG4.out | with_reducible refine Rg.drew ?_ | with_reducible refine Rg.setNew ?_ ?_ ?_ _ | with_reducible refine Rg.next ?_ (balloc (Below.refl _ _) _) ?_)); all_goals omega
end Go.Proofs.Ytogdhmbdackeeaa
