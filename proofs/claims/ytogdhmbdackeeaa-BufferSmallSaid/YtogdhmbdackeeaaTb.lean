import Derived.Test.YtogdhmbdackeeaaTa
namespace Go.Proofs.Ytogdhmbdackeeaa
open Go.RowKit
set_option linter.unusedVariables false

/-- A buffer and the reference's beside it. -/
structure DS (w : World) (b K : Nat) (B : Int) (v : Value) (A : List Int) (G : Nat) : Prop where
  buf : Buf w b K (A.drop G) (B + G)
  row : Row w 0 v A
  apart : ∀ g, v.ownBlock = some g → g ≠ b
  hG : G ≤ A.length
  byt : Bytes A
  b0 : 0 ≤ B
  b1 : B ≤ 281474976710656
theorem Row.rgb {w w' : World} {R b : Nat} {v : Value} {l : List Int} (h : Row w R v l) (hb : ∀ g, v.ownBlock = some g → g ≠ b) (hr : Rg b (b + 1) w w') : Row w' R v l := by
  refine ⟨h.1, ?_⟩
  rcases h.2 with h2 | ⟨g, cap, cur, e, hg, hh, rest⟩
  · exact .inl h2
  · refine .inr ⟨g, cap, cur, e, hg, hr.keep ?_ hh, rest⟩
    have := hb g (by rw [e]; rfl)
    omega
theorem Row.own_lt {w : World} {R g : Nat} {v : Value} {l : List Int} (h : Row w R v l) (hg : v.ownBlock = some g) : R ≤ g ∧ g < w.heap.size := by
  rcases h.2 with ⟨e, _⟩ | ⟨g', cap, cur, e, hg', hh, rest⟩
  · rw [e] at hg; cases hg
  · rw [e] at hg; cases hg; exact ⟨hg', lt_of_block hh⟩
theorem Row.lowN {w w' : World} {R n : Nat} {v : Value} {l : List Int} (h : Row w R v l) (hv : ∀ g, v.ownBlock = some g → g < n) (hb : Below n w w') : Row w' R v l := by
  refine ⟨h.1, ?_⟩
  rcases h.2 with h2 | ⟨g, cap, cur, e, hg, hh, rest⟩
  · exact .inl h2
  · exact .inr ⟨g, cap, cur, e, hg, (hb.block g (hv g (by rw [e]; rfl))).trans hh, rest⟩
theorem DS.next {w w' : World} {b K : Nat} {B : Int} {v : Value} {A : List Int} {G : Nat} (s : DS w b K B v A G) (hb : Below w.heap.size w w') : DS w' b K B v A G :=
  ⟨s.buf.next hb, s.row.next hb, s.apart, s.hG, s.byt, s.b0, s.b1⟩
theorem drop_len {A : List Int} {G : Nat} : (A.drop G).length = A.length - G := List.length_drop

abbrev actv (kind c N : Int) (bs : Value) : Value := .agg #[.int .u8 kind, .int .u8 c, .int .i64 N, bs]
def DoRes (b K : Nat) (B : Int) (n : Nat) (w : World) (e : Ending) (w' : World) : Prop :=
  ∃ v A G, e = .returned (.tuple #[rv K B v (G : Nat), .bool true]) ∧ DS w' b K B v A G ∧ A.length ≤ n + 1 ∧ Rg b (b + 1) w w'
theorem u8_bytes {A : List Int} {c : Int} (h : Bytes A) (h0 : 0 ≤ c) (h1 : c ≤ 255) : Bytes (A ++ [c]) := by
  intro x hx
  rcases List.mem_append.1 hx with hx | hx
  · exact h x hx
  · rw [List.mem_singleton.1 hx]; exact ⟨h0, by omega⟩

set_option maxRecDepth 100000 in
set_option maxHeartbeats 4000000 in
theorem do_put0_full {w : World} {b K G : Nat} {B kind c N : Int} {v bs : Value} {A : List Int} (s : DS w b K B v A G) (hA : A.length ≤ 80000) (hk0 : 0 ≤ kind) (hk1 : kind ≤ 255) (hc0 : 0 ≤ c) (hc1 : c ≤ 255) (hf : A.length - G = K) (hk : kind % 8 = 0) :
    Calls Try.prog 35 #[at0 b, rv K B v G, actv kind c N bs] w (DoRes b K B A.length w) := by
  obtain ⟨sa, cap, rfl, hcap⟩ := s.row.le
  have S0 := Lib.hid s
  have hbl : b < w.heap.size := s.buf.lt
  have X4 := Lib.hid (al (x := .cells #[.int .i64 0, .int .i64 0, .slice none 0 0, .int .i64 0] 72) (al (x := .cells #[.int .u8 kind, .int .u8 c, .int .i64 N, bs] 57) (nw (w := w) (o := .cells #[.int .i64 (K : Int), .int .i64 B, .slice sa A.length cap, .int .i64 (G : Int)] 72))))
  have X5 := Lib.hid (al (x := .cells #[.int .i64 0, .int .i64 0, .slice none 0 0, .int .i64 0] 72) (nwk (w := w.alloc (.cells #[.int .i64 (K : Int), .int .i64 B, .slice sa A.length cap, .int .i64 (G : Int)] 72)) (o := .cells #[.int .u8 kind, .int .u8 c, .int .i64 N, bs] 57) (k := w.heap.size + 1) (by simp)))
  have X6 := Lib.hid (nwk (w := (w.alloc (.cells #[.int .i64 (K : Int), .int .i64 B, .slice sa A.length cap, .int .i64 (G : Int)] 72)).alloc (.cells #[.int .u8 kind, .int .u8 c, .int .i64 N, bs] 57)) (o := .cells #[.int .i64 0, .int .i64 0, .slice none 0 0, .int .i64 0] 72) (k := w.heap.size + 1 + 1) (by simp))
  have B0 := Lib.hid (balloc (balloc (balloc (Below.refl _ w) (.cells #[.int .i64 (K : Int), .int .i64 B, .slice sa A.length cap, .int .i64 (G : Int)] 72)) (.cells #[.int .u8 kind, .int .u8 c, .int .i64 N, bs] 57)) (.cells #[.int .i64 0, .int .i64 0, .slice none 0 0, .int .i64 0] 72))
  have hk' : kind.tmod 8 = 0 := by rw [Int.tmod_eq_emod_of_nonneg hk0]; exact hk
  have hGl := s.hG
  have hb0 := s.b0
  have hb1 := s.b1
  have hsz := s.buf.size_le
  have hdl : (A.drop G).length = A.length - G := List.length_drop
  have OWN := Lib.hid (fun g h => (s.row.own_lt (g := g) h).2)
  clear s
  go_enter Try.func35, Try.ntmps35
  go_wp2_with fail
  refine (from_val (S := (K : Int)) (v := .slice sa A.length cap) (G := G) hb0 hb1 (by omega) _).mono ?_
  rintro e w1 ⟨rfl, hb⟩
  have S1 := Lib.hid ((S0.out.next (w' := _) (balloc (balloc (balloc (Below.refl _ w) (.cells #[.int .i64 (K : Int), .int .i64 B, .slice sa A.length cap, .int .i64 (G : Int)] 72)) (.cells #[.int .u8 kind, .int .u8 c, .int .i64 N, bs] 57)) (.cells #[.int .i64 0, .int .i64 0, .slice none 0 0, .int .i64 0] 72))).next hb)
  have Y4 := Lib.hid (carry hb X4.out); have Y5 := Lib.hid (carry hb X5.out); have Y6 := Lib.hid (carry hb X6.out)
  have W1 := Lib.hid (bnext B0.out hb)
  clear hb X4 X5 X6 B0
  obtain ⟨m0, m1, m2, m3⟩ := cell_4 Y4.out
  obtain ⟨n0, n1, n2, n3⟩ := cell_4 Y5.out
  have hw1 := W1.out.size
  have HDL := Lib.hid hdl
  have HSZ := Lib.hid hsz
  rw [hdl] at hsz
  clear hdl
  dsimp only
  have HF := Lib.hid hf
  clear hf
  go_wp2_with fail
  refine (bput_full S1.out.buf (by rw [HDL.out, HF.out])).mono ?_
  rintro e w2 ⟨rfl, hb⟩
  have hr : Rg b (b + 1) w1 w2 := Rg.below hb (by omega)
  have Z4 := Lib.hid (Rg.keep hr (.inr (by omega)) Y4.out)
  have Z5 := Lib.hid (Rg.keep hr (.inr (by omega)) Y5.out)
  have Z6 := Lib.hid (Rg.keep hr (.inr (by omega)) Y6.out)
  have RO2 := Lib.hid (S1.out.row.rgb S1.out.apart hr)
  have RG2 := Lib.hid ((Rg.below W1.out (Nat.le_of_lt hbl)).trans hr)
  have hw2 := RG2.out.high.size
  have BF2 := Lib.hid (S1.out.buf.next hb)
  clear hb
  clear hr
  clear m0 m1 m2 m3 n0 n1 n2 n3
  obtain ⟨m0, m1, m2, m3⟩ := cell_4 Z4.out
  obtain ⟨n0, n1, n2, n3⟩ := cell_4 Z5.out
  obtain ⟨d0, d1, d2, d3⟩ := cell_4 Z6.out
  obtain ⟨e0, e1, e2, e3⟩ := free_4 Z6.out
  have l6 := lt_of_block Z6.out
  dsimp only
  go_wp2_with fail
  refine (rput_full (S := (K : Int)) (B := B) (c := c) hcap hGl (by rw [HF.out]) _).mono ?_
  rintro e w3 ⟨rfl, hb⟩
  have BF3 := Lib.hid (BF2.out.next hb)
  have RG3 := Lib.hid (RG2.out.next hb (Nat.le_of_lt hbl))
  have RO3 := Lib.hid (RO2.out.next hb)
  have V4 := Lib.hid (carry hb Z4.out)
  have V5 := Lib.hid (carry hb Z5.out)
  have V6 := Lib.hid (carry hb Z6.out)
  have hw3 := hb.size
  clear hb d0 d1 d2 d3 e0 e1 e2 e3
  clear m0 m1 m2 m3 n0 n1 n2 n3
  obtain ⟨m0, m1, m2, m3⟩ := cell_4 V4.out
  obtain ⟨n0, n1, n2, n3⟩ := cell_4 V5.out
  obtain ⟨d0, d1, d2, d3⟩ := cell_4 V6.out
  obtain ⟨e0, e1, e2, e3⟩ := free_4 V6.out
  have l6 := lt_of_block V6.out
  dsimp only
  go_wp2_with fail
  have WF := Lib.hid (Below.refl w.heap.size w3)
  refine bodyPost_ret (v := .tuple #[rv K B (.slice sa A.length cap) G, .bool true]) (by simp [results, Try.results35, go_sem, d0, d1, d2, d3, l6]) rfl ?_
  refine ⟨_, A, G, rfl, ⟨?_, ?_, S1.out.apart, hGl, S1.out.byt, hb0, hb1⟩, by omega, ?_⟩
  · refine BF3.out.under (n := w.heap.size) ?_ hbl
    (repeat' (first | with_reducible exact WF.out | with_reducible refine bset ?_ ?_ _ | with_reducible refine ballo ?_ ?_ _)); all_goals (first | omega | (simp; omega))
  · refine RO3.out.lowN (n := w.heap.size) (fun g h => OWN.out g h) ?_
    (repeat' (first | with_reducible exact WF.out | with_reducible refine bset ?_ ?_ _ | with_reducible refine ballo ?_ ?_ _)); all_goals (first | omega | (simp; omega))
  · (repeat' (first | with_reducible exact RG3.out | with_reducible refine Rg.setNew ?_ ?_ ?_ _ | with_reducible refine Rg.next ?_ (balloc (Below.refl _ _) _) ?_)); all_goals omega

set_option maxRecDepth 100000 in
set_option maxHeartbeats 4000000 in
theorem do_put0_long {w : World} {b K G : Nat} {B kind c N : Int} {v bs : Value} {A : List Int} (s : DS w b K B v A G) (hA : A.length ≤ 80000) (hk0 : 0 ≤ kind) (hk1 : kind ≤ 255) (hc0 : 0 ≤ c) (hc1 : c ≤ 255) (hf : A.length - G ≠ K) (hl : B + (A.length : Int) = 281474976710656) (hk : kind % 8 = 0) :
    Calls Try.prog 35 #[at0 b, rv K B v G, actv kind c N bs] w (DoRes b K B A.length w) := by
  obtain ⟨sa, cap, rfl, hcap⟩ := s.row.le
  have S0 := Lib.hid s
  have hbl : b < w.heap.size := s.buf.lt
  have X4 := Lib.hid (al (x := .cells #[.int .i64 0, .int .i64 0, .slice none 0 0, .int .i64 0] 72) (al (x := .cells #[.int .u8 kind, .int .u8 c, .int .i64 N, bs] 57) (nw (w := w) (o := .cells #[.int .i64 (K : Int), .int .i64 B, .slice sa A.length cap, .int .i64 (G : Int)] 72))))
  have X5 := Lib.hid (al (x := .cells #[.int .i64 0, .int .i64 0, .slice none 0 0, .int .i64 0] 72) (nwk (w := w.alloc (.cells #[.int .i64 (K : Int), .int .i64 B, .slice sa A.length cap, .int .i64 (G : Int)] 72)) (o := .cells #[.int .u8 kind, .int .u8 c, .int .i64 N, bs] 57) (k := w.heap.size + 1) (by simp)))
  have X6 := Lib.hid (nwk (w := (w.alloc (.cells #[.int .i64 (K : Int), .int .i64 B, .slice sa A.length cap, .int .i64 (G : Int)] 72)).alloc (.cells #[.int .u8 kind, .int .u8 c, .int .i64 N, bs] 57)) (o := .cells #[.int .i64 0, .int .i64 0, .slice none 0 0, .int .i64 0] 72) (k := w.heap.size + 1 + 1) (by simp))
  have B0 := Lib.hid (balloc (balloc (balloc (Below.refl _ w) (.cells #[.int .i64 (K : Int), .int .i64 B, .slice sa A.length cap, .int .i64 (G : Int)] 72)) (.cells #[.int .u8 kind, .int .u8 c, .int .i64 N, bs] 57)) (.cells #[.int .i64 0, .int .i64 0, .slice none 0 0, .int .i64 0] 72))
  have hk' : kind.tmod 8 = 0 := by rw [Int.tmod_eq_emod_of_nonneg hk0]; exact hk
  have hGl := s.hG
  have hb0 := s.b0
  have hb1 := s.b1
  have hsz := s.buf.size_le
  have hdl : (A.drop G).length = A.length - G := List.length_drop
  have OWN := Lib.hid (fun g h => (s.row.own_lt (g := g) h).2)
  clear s
  go_enter Try.func35, Try.ntmps35
  go_wp2_with fail
  refine (from_val (S := (K : Int)) (v := .slice sa A.length cap) (G := G) hb0 hb1 (by omega) _).mono ?_
  rintro e w1 ⟨rfl, hb⟩
  have S1 := Lib.hid ((S0.out.next (w' := _) (balloc (balloc (balloc (Below.refl _ w) (.cells #[.int .i64 (K : Int), .int .i64 B, .slice sa A.length cap, .int .i64 (G : Int)] 72)) (.cells #[.int .u8 kind, .int .u8 c, .int .i64 N, bs] 57)) (.cells #[.int .i64 0, .int .i64 0, .slice none 0 0, .int .i64 0] 72))).next hb)
  have Y4 := Lib.hid (carry hb X4.out); have Y5 := Lib.hid (carry hb X5.out); have Y6 := Lib.hid (carry hb X6.out)
  have W1 := Lib.hid (bnext B0.out hb)
  clear hb X4 X5 X6 B0
  obtain ⟨m0, m1, m2, m3⟩ := cell_4 Y4.out
  obtain ⟨n0, n1, n2, n3⟩ := cell_4 Y5.out
  have hw1 := W1.out.size
  have HDL := Lib.hid hdl
  have HSZ := Lib.hid hsz
  rw [hdl] at hsz
  clear hdl
  dsimp only
  have HF := Lib.hid hf
  clear hf
  go_wp2_with fail
  refine (bput_long S1.out.buf (by rw [HDL.out]; have := HF.out; omega) (by rw [HDL.out]; omega)).mono ?_
  rintro e w2 ⟨rfl, hb⟩
  have hr : Rg b (b + 1) w1 w2 := Rg.below hb (by omega)
  have Z4 := Lib.hid (Rg.keep hr (.inr (by omega)) Y4.out)
  have Z5 := Lib.hid (Rg.keep hr (.inr (by omega)) Y5.out)
  have Z6 := Lib.hid (Rg.keep hr (.inr (by omega)) Y6.out)
  have RO2 := Lib.hid (S1.out.row.rgb S1.out.apart hr)
  have RG2 := Lib.hid ((Rg.below W1.out (Nat.le_of_lt hbl)).trans hr)
  have hw2 := RG2.out.high.size
  have BF2 := Lib.hid (S1.out.buf.next hb)
  clear hb
  clear hr
  clear m0 m1 m2 m3 n0 n1 n2 n3
  obtain ⟨m0, m1, m2, m3⟩ := cell_4 Z4.out
  obtain ⟨n0, n1, n2, n3⟩ := cell_4 Z5.out
  obtain ⟨d0, d1, d2, d3⟩ := cell_4 Z6.out
  obtain ⟨e0, e1, e2, e3⟩ := free_4 Z6.out
  have l6 := lt_of_block Z6.out
  dsimp only
  go_wp2_with fail
  refine (rput_long (S := (K : Int)) (B := B) (c := c) hcap hGl (by omega) hb0 hb1 (by have := HF.out; omega) (by omega) _).mono ?_
  rintro e w3 ⟨rfl, hb⟩
  have BF3 := Lib.hid (BF2.out.next hb)
  have RG3 := Lib.hid (RG2.out.next hb (Nat.le_of_lt hbl))
  have RO3 := Lib.hid (RO2.out.next hb)
  have V4 := Lib.hid (carry hb Z4.out)
  have V5 := Lib.hid (carry hb Z5.out)
  have V6 := Lib.hid (carry hb Z6.out)
  have hw3 := hb.size
  clear hb d0 d1 d2 d3 e0 e1 e2 e3
  clear m0 m1 m2 m3 n0 n1 n2 n3
  obtain ⟨m0, m1, m2, m3⟩ := cell_4 V4.out
  obtain ⟨n0, n1, n2, n3⟩ := cell_4 V5.out
  obtain ⟨d0, d1, d2, d3⟩ := cell_4 V6.out
  obtain ⟨e0, e1, e2, e3⟩ := free_4 V6.out
  have l6 := lt_of_block V6.out
  dsimp only
  go_wp2_with fail
  have WF := Lib.hid (Below.refl w.heap.size w3)
  refine bodyPost_ret (v := .tuple #[rv K B (.slice sa A.length cap) G, .bool true]) (by simp [results, Try.results35, go_sem, d0, d1, d2, d3, l6]) rfl ?_
  refine ⟨_, A, G, rfl, ⟨?_, ?_, S1.out.apart, hGl, S1.out.byt, hb0, hb1⟩, by omega, ?_⟩
  · refine BF3.out.under (n := w.heap.size) ?_ hbl
    (repeat' (first | with_reducible exact WF.out | with_reducible refine bset ?_ ?_ _ | with_reducible refine ballo ?_ ?_ _)); all_goals (first | omega | (simp; omega))
  · refine RO3.out.lowN (n := w.heap.size) (fun g h => OWN.out g h) ?_
    (repeat' (first | with_reducible exact WF.out | with_reducible refine bset ?_ ?_ _ | with_reducible refine ballo ?_ ?_ _)); all_goals (first | omega | (simp; omega))
  · (repeat' (first | with_reducible exact RG3.out | with_reducible refine Rg.setNew ?_ ?_ ?_ _ | with_reducible refine Rg.next ?_ (balloc (Below.refl _ _) _) ?_)); all_goals omega

set_option maxRecDepth 100000 in
set_option maxHeartbeats 4000000 in
theorem do_put0_ok {w : World} {b K G : Nat} {B kind c N : Int} {v bs : Value} {A : List Int} (s : DS w b K B v A G) (hA : A.length ≤ 80000) (hk0 : 0 ≤ kind) (hk1 : kind ≤ 255) (hc0 : 0 ≤ c) (hc1 : c ≤ 255) (hf : A.length - G ≠ K) (hl : B + (A.length : Int) < 281474976710656) (hk : kind % 8 = 0) :
    Calls Try.prog 35 #[at0 b, rv K B v G, actv kind c N bs] w (DoRes b K B A.length w) := by
  obtain ⟨sa, cap, rfl, hcap⟩ := s.row.le
  have S0 := Lib.hid s
  have hbl : b < w.heap.size := s.buf.lt
  have X4 := Lib.hid (al (x := .cells #[.int .i64 0, .int .i64 0, .slice none 0 0, .int .i64 0] 72) (al (x := .cells #[.int .u8 kind, .int .u8 c, .int .i64 N, bs] 57) (nw (w := w) (o := .cells #[.int .i64 (K : Int), .int .i64 B, .slice sa A.length cap, .int .i64 (G : Int)] 72))))
  have X5 := Lib.hid (al (x := .cells #[.int .i64 0, .int .i64 0, .slice none 0 0, .int .i64 0] 72) (nwk (w := w.alloc (.cells #[.int .i64 (K : Int), .int .i64 B, .slice sa A.length cap, .int .i64 (G : Int)] 72)) (o := .cells #[.int .u8 kind, .int .u8 c, .int .i64 N, bs] 57) (k := w.heap.size + 1) (by simp)))
  have X6 := Lib.hid (nwk (w := (w.alloc (.cells #[.int .i64 (K : Int), .int .i64 B, .slice sa A.length cap, .int .i64 (G : Int)] 72)).alloc (.cells #[.int .u8 kind, .int .u8 c, .int .i64 N, bs] 57)) (o := .cells #[.int .i64 0, .int .i64 0, .slice none 0 0, .int .i64 0] 72) (k := w.heap.size + 1 + 1) (by simp))
  have B0 := Lib.hid (balloc (balloc (balloc (Below.refl _ w) (.cells #[.int .i64 (K : Int), .int .i64 B, .slice sa A.length cap, .int .i64 (G : Int)] 72)) (.cells #[.int .u8 kind, .int .u8 c, .int .i64 N, bs] 57)) (.cells #[.int .i64 0, .int .i64 0, .slice none 0 0, .int .i64 0] 72))
  have hk' : kind.tmod 8 = 0 := by rw [Int.tmod_eq_emod_of_nonneg hk0]; exact hk
  have hGl := s.hG
  have hb0 := s.b0
  have hb1 := s.b1
  have hsz := s.buf.size_le
  have hdl : (A.drop G).length = A.length - G := List.length_drop
  have OWN := Lib.hid (fun g h => (s.row.own_lt (g := g) h).2)
  clear s
  go_enter Try.func35, Try.ntmps35
  go_wp2_with fail
  refine (from_val (S := (K : Int)) (v := .slice sa A.length cap) (G := G) hb0 hb1 (by omega) _).mono ?_
  rintro e w1 ⟨rfl, hb⟩
  have S1 := Lib.hid ((S0.out.next (w' := _) (balloc (balloc (balloc (Below.refl _ w) (.cells #[.int .i64 (K : Int), .int .i64 B, .slice sa A.length cap, .int .i64 (G : Int)] 72)) (.cells #[.int .u8 kind, .int .u8 c, .int .i64 N, bs] 57)) (.cells #[.int .i64 0, .int .i64 0, .slice none 0 0, .int .i64 0] 72))).next hb)
  have Y4 := Lib.hid (carry hb X4.out); have Y5 := Lib.hid (carry hb X5.out); have Y6 := Lib.hid (carry hb X6.out)
  have W1 := Lib.hid (bnext B0.out hb)
  clear hb X4 X5 X6 B0
  obtain ⟨m0, m1, m2, m3⟩ := cell_4 Y4.out
  obtain ⟨n0, n1, n2, n3⟩ := cell_4 Y5.out
  have hw1 := W1.out.size
  have HDL := Lib.hid hdl
  have HSZ := Lib.hid hsz
  rw [hdl] at hsz
  clear hdl
  dsimp only
  have HF := Lib.hid hf
  clear hf
  go_wp2_with fail
  refine (bput S1.out.buf (by rw [HDL.out]; have := HF.out; omega) (by rw [HDL.out]; omega)).mono ?_
  rintro e w2 ⟨rfl, hbf, hr⟩
  have BF2 := Lib.hid hbf
  clear hbf
  have Z4 := Lib.hid (Rg.keep hr (.inr (by omega)) Y4.out)
  have Z5 := Lib.hid (Rg.keep hr (.inr (by omega)) Y5.out)
  have Z6 := Lib.hid (Rg.keep hr (.inr (by omega)) Y6.out)
  have RO2 := Lib.hid (S1.out.row.rgb S1.out.apart hr)
  have RG2 := Lib.hid ((Rg.below W1.out (Nat.le_of_lt hbl)).trans hr)
  have hw2 := RG2.out.high.size
  clear hr
  clear m0 m1 m2 m3 n0 n1 n2 n3
  obtain ⟨m0, m1, m2, m3⟩ := cell_4 Z4.out
  obtain ⟨n0, n1, n2, n3⟩ := cell_4 Z5.out
  obtain ⟨d0, d1, d2, d3⟩ := cell_4 Z6.out
  obtain ⟨e0, e1, e2, e3⟩ := free_4 Z6.out
  have l6 := lt_of_block Z6.out
  dsimp only
  go_wp2_with fail
  refine (rput_ok (S := (K : Int)) (B := B) (c := c) hcap hGl (by omega) hb0 hb1 (by have := HF.out; omega) hl _ RO2.out.reads).mono ?_
  rintro e w3 ⟨v', rfl, hrow, hb⟩
  have RO3 := Lib.hid hrow
  obtain ⟨sb, cb, hv', hcb⟩ := RO3.out.le
  rw [List.length_append, List.length_singleton] at hv'
  subst hv'
  clear hrow
  have BF3 := Lib.hid (BF2.out.next hb)
  have RG3 := Lib.hid (RG2.out.next hb (Nat.le_of_lt hbl))
  have V4 := Lib.hid (carry hb Z4.out)
  have V5 := Lib.hid (carry hb Z5.out)
  have V6 := Lib.hid (carry hb Z6.out)
  have hw3 := hb.size
  clear hb d0 d1 d2 d3 e0 e1 e2 e3
  clear m0 m1 m2 m3 n0 n1 n2 n3
  obtain ⟨m0, m1, m2, m3⟩ := cell_4 V4.out
  obtain ⟨n0, n1, n2, n3⟩ := cell_4 V5.out
  obtain ⟨d0, d1, d2, d3⟩ := cell_4 V6.out
  obtain ⟨e0, e1, e2, e3⟩ := free_4 V6.out
  have l6 := lt_of_block V6.out
  dsimp only
  go_wp2_with fail
  have WF := Lib.hid (Below.refl w.heap.size w3)
  refine bodyPost_ret (v := .tuple #[rv K B (.slice sb (A.length + 1) cb) G, .bool true]) (by simp [results, Try.results35, go_sem, d0, d1, d2, d3, l6]) rfl ?_
  refine ⟨_, A ++ [c], G, rfl, ⟨?_, ?_, ?_, by rw [List.length_append]; omega, u8_bytes S1.out.byt hc0 hc1, hb0, hb1⟩, by rw [List.length_append]; exact Nat.le_refl _, ?_⟩
  · rw [List.drop_append_of_le_length hGl]
    refine BF3.out.under (n := w.heap.size) ?_ hbl
    (repeat' (first | with_reducible exact WF.out | with_reducible refine bset ?_ ?_ _ | with_reducible refine ballo ?_ ?_ _)); all_goals (first | omega | (simp; omega))
  · refine Row.low (B := w2.heap.size) ?_ (Nat.zero_le _)
    exact ((((RO3.out.set (by omega)).set (by omega)).set (by omega)).set (by omega)).next (balloc (Below.refl _ _) _)
  · intro g h
    have := (RO3.out.own_lt h).1
    omega
  · (repeat' (first | with_reducible exact RG3.out | with_reducible refine Rg.setNew ?_ ?_ ?_ _ | with_reducible refine Rg.next ?_ (balloc (Below.refl _ _) _) ?_)); all_goals omega

set_option maxRecDepth 100000 in
set_option maxHeartbeats 4000000 in
theorem do_put1_full {w : World} {b K G : Nat} {B kind c N : Int} {v bs : Value} {A : List Int} (s : DS w b K B v A G) (hA : A.length ≤ 80000) (hk0 : 0 ≤ kind) (hk1 : kind ≤ 255) (hc0 : 0 ≤ c) (hc1 : c ≤ 255) (hf : A.length - G = K) (hk : kind % 8 = 1) :
    Calls Try.prog 35 #[at0 b, rv K B v G, actv kind c N bs] w (DoRes b K B A.length w) := by
  obtain ⟨sa, cap, rfl, hcap⟩ := s.row.le
  have S0 := Lib.hid s
  have hbl : b < w.heap.size := s.buf.lt
  have X4 := Lib.hid (al (x := .cells #[.int .i64 0, .int .i64 0, .slice none 0 0, .int .i64 0] 72) (al (x := .cells #[.int .u8 kind, .int .u8 c, .int .i64 N, bs] 57) (nw (w := w) (o := .cells #[.int .i64 (K : Int), .int .i64 B, .slice sa A.length cap, .int .i64 (G : Int)] 72))))
  have X5 := Lib.hid (al (x := .cells #[.int .i64 0, .int .i64 0, .slice none 0 0, .int .i64 0] 72) (nwk (w := w.alloc (.cells #[.int .i64 (K : Int), .int .i64 B, .slice sa A.length cap, .int .i64 (G : Int)] 72)) (o := .cells #[.int .u8 kind, .int .u8 c, .int .i64 N, bs] 57) (k := w.heap.size + 1) (by simp)))
  have X6 := Lib.hid (nwk (w := (w.alloc (.cells #[.int .i64 (K : Int), .int .i64 B, .slice sa A.length cap, .int .i64 (G : Int)] 72)).alloc (.cells #[.int .u8 kind, .int .u8 c, .int .i64 N, bs] 57)) (o := .cells #[.int .i64 0, .int .i64 0, .slice none 0 0, .int .i64 0] 72) (k := w.heap.size + 1 + 1) (by simp))
  have B0 := Lib.hid (balloc (balloc (balloc (Below.refl _ w) (.cells #[.int .i64 (K : Int), .int .i64 B, .slice sa A.length cap, .int .i64 (G : Int)] 72)) (.cells #[.int .u8 kind, .int .u8 c, .int .i64 N, bs] 57)) (.cells #[.int .i64 0, .int .i64 0, .slice none 0 0, .int .i64 0] 72))
  have hk' : kind.tmod 8 = 1 := by rw [Int.tmod_eq_emod_of_nonneg hk0]; exact hk
  have hGl := s.hG
  have hb0 := s.b0
  have hb1 := s.b1
  have hsz := s.buf.size_le
  have hdl : (A.drop G).length = A.length - G := List.length_drop
  have OWN := Lib.hid (fun g h => (s.row.own_lt (g := g) h).2)
  clear s
  go_enter Try.func35, Try.ntmps35
  go_wp2_with fail
  refine (from_val (S := (K : Int)) (v := .slice sa A.length cap) (G := G) hb0 hb1 (by omega) _).mono ?_
  rintro e w1 ⟨rfl, hb⟩
  have S1 := Lib.hid ((S0.out.next (w' := _) (balloc (balloc (balloc (Below.refl _ w) (.cells #[.int .i64 (K : Int), .int .i64 B, .slice sa A.length cap, .int .i64 (G : Int)] 72)) (.cells #[.int .u8 kind, .int .u8 c, .int .i64 N, bs] 57)) (.cells #[.int .i64 0, .int .i64 0, .slice none 0 0, .int .i64 0] 72))).next hb)
  have Y4 := Lib.hid (carry hb X4.out); have Y5 := Lib.hid (carry hb X5.out); have Y6 := Lib.hid (carry hb X6.out)
  have W1 := Lib.hid (bnext B0.out hb)
  clear hb X4 X5 X6 B0
  obtain ⟨m0, m1, m2, m3⟩ := cell_4 Y4.out
  obtain ⟨n0, n1, n2, n3⟩ := cell_4 Y5.out
  have hw1 := W1.out.size
  have HDL := Lib.hid hdl
  have HSZ := Lib.hid hsz
  rw [hdl] at hsz
  clear hdl
  dsimp only
  have HF := Lib.hid hf
  clear hf
  go_wp2_with fail
  refine (bput_full S1.out.buf (by rw [HDL.out, HF.out])).mono ?_
  rintro e w2 ⟨rfl, hb⟩
  have hr : Rg b (b + 1) w1 w2 := Rg.below hb (by omega)
  have Z4 := Lib.hid (Rg.keep hr (.inr (by omega)) Y4.out)
  have Z5 := Lib.hid (Rg.keep hr (.inr (by omega)) Y5.out)
  have Z6 := Lib.hid (Rg.keep hr (.inr (by omega)) Y6.out)
  have RO2 := Lib.hid (S1.out.row.rgb S1.out.apart hr)
  have RG2 := Lib.hid ((Rg.below W1.out (Nat.le_of_lt hbl)).trans hr)
  have hw2 := RG2.out.high.size
  have BF2 := Lib.hid (S1.out.buf.next hb)
  clear hb
  clear hr
  clear m0 m1 m2 m3 n0 n1 n2 n3
  obtain ⟨m0, m1, m2, m3⟩ := cell_4 Z4.out
  obtain ⟨n0, n1, n2, n3⟩ := cell_4 Z5.out
  obtain ⟨d0, d1, d2, d3⟩ := cell_4 Z6.out
  obtain ⟨e0, e1, e2, e3⟩ := free_4 Z6.out
  have l6 := lt_of_block Z6.out
  dsimp only
  go_wp2_with fail
  refine (rput_full (S := (K : Int)) (B := B) (c := c) hcap hGl (by rw [HF.out]) _).mono ?_
  rintro e w3 ⟨rfl, hb⟩
  have BF3 := Lib.hid (BF2.out.next hb)
  have RG3 := Lib.hid (RG2.out.next hb (Nat.le_of_lt hbl))
  have RO3 := Lib.hid (RO2.out.next hb)
  have V4 := Lib.hid (carry hb Z4.out)
  have V5 := Lib.hid (carry hb Z5.out)
  have V6 := Lib.hid (carry hb Z6.out)
  have hw3 := hb.size
  clear hb d0 d1 d2 d3 e0 e1 e2 e3
  clear m0 m1 m2 m3 n0 n1 n2 n3
  obtain ⟨m0, m1, m2, m3⟩ := cell_4 V4.out
  obtain ⟨n0, n1, n2, n3⟩ := cell_4 V5.out
  obtain ⟨d0, d1, d2, d3⟩ := cell_4 V6.out
  obtain ⟨e0, e1, e2, e3⟩ := free_4 V6.out
  have l6 := lt_of_block V6.out
  dsimp only
  go_wp2_with fail
  have WF := Lib.hid (Below.refl w.heap.size w3)
  refine bodyPost_ret (v := .tuple #[rv K B (.slice sa A.length cap) G, .bool true]) (by simp [results, Try.results35, go_sem, d0, d1, d2, d3, l6]) rfl ?_
  refine ⟨_, A, G, rfl, ⟨?_, ?_, S1.out.apart, hGl, S1.out.byt, hb0, hb1⟩, by omega, ?_⟩
  · refine BF3.out.under (n := w.heap.size) ?_ hbl
    (repeat' (first | with_reducible exact WF.out | with_reducible refine bset ?_ ?_ _ | with_reducible refine ballo ?_ ?_ _)); all_goals (first | omega | (simp; omega))
  · refine RO3.out.lowN (n := w.heap.size) (fun g h => OWN.out g h) ?_
    (repeat' (first | with_reducible exact WF.out | with_reducible refine bset ?_ ?_ _ | with_reducible refine ballo ?_ ?_ _)); all_goals (first | omega | (simp; omega))
  · (repeat' (first | with_reducible exact RG3.out | with_reducible refine Rg.setNew ?_ ?_ ?_ _ | with_reducible refine Rg.next ?_ (balloc (Below.refl _ _) _) ?_)); all_goals omega

set_option maxRecDepth 100000 in
set_option maxHeartbeats 4000000 in
theorem do_put1_long {w : World} {b K G : Nat} {B kind c N : Int} {v bs : Value} {A : List Int} (s : DS w b K B v A G) (hA : A.length ≤ 80000) (hk0 : 0 ≤ kind) (hk1 : kind ≤ 255) (hc0 : 0 ≤ c) (hc1 : c ≤ 255) (hf : A.length - G ≠ K) (hl : B + (A.length : Int) = 281474976710656) (hk : kind % 8 = 1) :
    Calls Try.prog 35 #[at0 b, rv K B v G, actv kind c N bs] w (DoRes b K B A.length w) := by
  obtain ⟨sa, cap, rfl, hcap⟩ := s.row.le
  have S0 := Lib.hid s
  have hbl : b < w.heap.size := s.buf.lt
  have X4 := Lib.hid (al (x := .cells #[.int .i64 0, .int .i64 0, .slice none 0 0, .int .i64 0] 72) (al (x := .cells #[.int .u8 kind, .int .u8 c, .int .i64 N, bs] 57) (nw (w := w) (o := .cells #[.int .i64 (K : Int), .int .i64 B, .slice sa A.length cap, .int .i64 (G : Int)] 72))))
  have X5 := Lib.hid (al (x := .cells #[.int .i64 0, .int .i64 0, .slice none 0 0, .int .i64 0] 72) (nwk (w := w.alloc (.cells #[.int .i64 (K : Int), .int .i64 B, .slice sa A.length cap, .int .i64 (G : Int)] 72)) (o := .cells #[.int .u8 kind, .int .u8 c, .int .i64 N, bs] 57) (k := w.heap.size + 1) (by simp)))
  have X6 := Lib.hid (nwk (w := (w.alloc (.cells #[.int .i64 (K : Int), .int .i64 B, .slice sa A.length cap, .int .i64 (G : Int)] 72)).alloc (.cells #[.int .u8 kind, .int .u8 c, .int .i64 N, bs] 57)) (o := .cells #[.int .i64 0, .int .i64 0, .slice none 0 0, .int .i64 0] 72) (k := w.heap.size + 1 + 1) (by simp))
  have B0 := Lib.hid (balloc (balloc (balloc (Below.refl _ w) (.cells #[.int .i64 (K : Int), .int .i64 B, .slice sa A.length cap, .int .i64 (G : Int)] 72)) (.cells #[.int .u8 kind, .int .u8 c, .int .i64 N, bs] 57)) (.cells #[.int .i64 0, .int .i64 0, .slice none 0 0, .int .i64 0] 72))
  have hk' : kind.tmod 8 = 1 := by rw [Int.tmod_eq_emod_of_nonneg hk0]; exact hk
  have hGl := s.hG
  have hb0 := s.b0
  have hb1 := s.b1
  have hsz := s.buf.size_le
  have hdl : (A.drop G).length = A.length - G := List.length_drop
  have OWN := Lib.hid (fun g h => (s.row.own_lt (g := g) h).2)
  clear s
  go_enter Try.func35, Try.ntmps35
  go_wp2_with fail
  refine (from_val (S := (K : Int)) (v := .slice sa A.length cap) (G := G) hb0 hb1 (by omega) _).mono ?_
  rintro e w1 ⟨rfl, hb⟩
  have S1 := Lib.hid ((S0.out.next (w' := _) (balloc (balloc (balloc (Below.refl _ w) (.cells #[.int .i64 (K : Int), .int .i64 B, .slice sa A.length cap, .int .i64 (G : Int)] 72)) (.cells #[.int .u8 kind, .int .u8 c, .int .i64 N, bs] 57)) (.cells #[.int .i64 0, .int .i64 0, .slice none 0 0, .int .i64 0] 72))).next hb)
  have Y4 := Lib.hid (carry hb X4.out); have Y5 := Lib.hid (carry hb X5.out); have Y6 := Lib.hid (carry hb X6.out)
  have W1 := Lib.hid (bnext B0.out hb)
  clear hb X4 X5 X6 B0
  obtain ⟨m0, m1, m2, m3⟩ := cell_4 Y4.out
  obtain ⟨n0, n1, n2, n3⟩ := cell_4 Y5.out
  have hw1 := W1.out.size
  have HDL := Lib.hid hdl
  have HSZ := Lib.hid hsz
  rw [hdl] at hsz
  clear hdl
  dsimp only
  have HF := Lib.hid hf
  clear hf
  go_wp2_with fail
  refine (bput_long S1.out.buf (by rw [HDL.out]; have := HF.out; omega) (by rw [HDL.out]; omega)).mono ?_
  rintro e w2 ⟨rfl, hb⟩
  have hr : Rg b (b + 1) w1 w2 := Rg.below hb (by omega)
  have Z4 := Lib.hid (Rg.keep hr (.inr (by omega)) Y4.out)
  have Z5 := Lib.hid (Rg.keep hr (.inr (by omega)) Y5.out)
  have Z6 := Lib.hid (Rg.keep hr (.inr (by omega)) Y6.out)
  have RO2 := Lib.hid (S1.out.row.rgb S1.out.apart hr)
  have RG2 := Lib.hid ((Rg.below W1.out (Nat.le_of_lt hbl)).trans hr)
  have hw2 := RG2.out.high.size
  have BF2 := Lib.hid (S1.out.buf.next hb)
  clear hb
  clear hr
  clear m0 m1 m2 m3 n0 n1 n2 n3
  obtain ⟨m0, m1, m2, m3⟩ := cell_4 Z4.out
  obtain ⟨n0, n1, n2, n3⟩ := cell_4 Z5.out
  obtain ⟨d0, d1, d2, d3⟩ := cell_4 Z6.out
  obtain ⟨e0, e1, e2, e3⟩ := free_4 Z6.out
  have l6 := lt_of_block Z6.out
  dsimp only
  go_wp2_with fail
  refine (rput_long (S := (K : Int)) (B := B) (c := c) hcap hGl (by omega) hb0 hb1 (by have := HF.out; omega) (by omega) _).mono ?_
  rintro e w3 ⟨rfl, hb⟩
  have BF3 := Lib.hid (BF2.out.next hb)
  have RG3 := Lib.hid (RG2.out.next hb (Nat.le_of_lt hbl))
  have RO3 := Lib.hid (RO2.out.next hb)
  have V4 := Lib.hid (carry hb Z4.out)
  have V5 := Lib.hid (carry hb Z5.out)
  have V6 := Lib.hid (carry hb Z6.out)
  have hw3 := hb.size
  clear hb d0 d1 d2 d3 e0 e1 e2 e3
  clear m0 m1 m2 m3 n0 n1 n2 n3
  obtain ⟨m0, m1, m2, m3⟩ := cell_4 V4.out
  obtain ⟨n0, n1, n2, n3⟩ := cell_4 V5.out
  obtain ⟨d0, d1, d2, d3⟩ := cell_4 V6.out
  obtain ⟨e0, e1, e2, e3⟩ := free_4 V6.out
  have l6 := lt_of_block V6.out
  dsimp only
  go_wp2_with fail
  have WF := Lib.hid (Below.refl w.heap.size w3)
  refine bodyPost_ret (v := .tuple #[rv K B (.slice sa A.length cap) G, .bool true]) (by simp [results, Try.results35, go_sem, d0, d1, d2, d3, l6]) rfl ?_
  refine ⟨_, A, G, rfl, ⟨?_, ?_, S1.out.apart, hGl, S1.out.byt, hb0, hb1⟩, by omega, ?_⟩
  · refine BF3.out.under (n := w.heap.size) ?_ hbl
    (repeat' (first | with_reducible exact WF.out | with_reducible refine bset ?_ ?_ _ | with_reducible refine ballo ?_ ?_ _)); all_goals (first | omega | (simp; omega))
  · refine RO3.out.lowN (n := w.heap.size) (fun g h => OWN.out g h) ?_
    (repeat' (first | with_reducible exact WF.out | with_reducible refine bset ?_ ?_ _ | with_reducible refine ballo ?_ ?_ _)); all_goals (first | omega | (simp; omega))
  · (repeat' (first | with_reducible exact RG3.out | with_reducible refine Rg.setNew ?_ ?_ ?_ _ | with_reducible refine Rg.next ?_ (balloc (Below.refl _ _) _) ?_)); all_goals omega

set_option maxRecDepth 100000 in
set_option maxHeartbeats 4000000 in
theorem do_put1_ok {w : World} {b K G : Nat} {B kind c N : Int} {v bs : Value} {A : List Int} (s : DS w b K B v A G) (hA : A.length ≤ 80000) (hk0 : 0 ≤ kind) (hk1 : kind ≤ 255) (hc0 : 0 ≤ c) (hc1 : c ≤ 255) (hf : A.length - G ≠ K) (hl : B + (A.length : Int) < 281474976710656) (hk : kind % 8 = 1) :
    Calls Try.prog 35 #[at0 b, rv K B v G, actv kind c N bs] w (DoRes b K B A.length w) := by
  obtain ⟨sa, cap, rfl, hcap⟩ := s.row.le
  have S0 := Lib.hid s
  have hbl : b < w.heap.size := s.buf.lt
  have X4 := Lib.hid (al (x := .cells #[.int .i64 0, .int .i64 0, .slice none 0 0, .int .i64 0] 72) (al (x := .cells #[.int .u8 kind, .int .u8 c, .int .i64 N, bs] 57) (nw (w := w) (o := .cells #[.int .i64 (K : Int), .int .i64 B, .slice sa A.length cap, .int .i64 (G : Int)] 72))))
  have X5 := Lib.hid (al (x := .cells #[.int .i64 0, .int .i64 0, .slice none 0 0, .int .i64 0] 72) (nwk (w := w.alloc (.cells #[.int .i64 (K : Int), .int .i64 B, .slice sa A.length cap, .int .i64 (G : Int)] 72)) (o := .cells #[.int .u8 kind, .int .u8 c, .int .i64 N, bs] 57) (k := w.heap.size + 1) (by simp)))
  have X6 := Lib.hid (nwk (w := (w.alloc (.cells #[.int .i64 (K : Int), .int .i64 B, .slice sa A.length cap, .int .i64 (G : Int)] 72)).alloc (.cells #[.int .u8 kind, .int .u8 c, .int .i64 N, bs] 57)) (o := .cells #[.int .i64 0, .int .i64 0, .slice none 0 0, .int .i64 0] 72) (k := w.heap.size + 1 + 1) (by simp))
  have B0 := Lib.hid (balloc (balloc (balloc (Below.refl _ w) (.cells #[.int .i64 (K : Int), .int .i64 B, .slice sa A.length cap, .int .i64 (G : Int)] 72)) (.cells #[.int .u8 kind, .int .u8 c, .int .i64 N, bs] 57)) (.cells #[.int .i64 0, .int .i64 0, .slice none 0 0, .int .i64 0] 72))
  have hk' : kind.tmod 8 = 1 := by rw [Int.tmod_eq_emod_of_nonneg hk0]; exact hk
  have hGl := s.hG
  have hb0 := s.b0
  have hb1 := s.b1
  have hsz := s.buf.size_le
  have hdl : (A.drop G).length = A.length - G := List.length_drop
  have OWN := Lib.hid (fun g h => (s.row.own_lt (g := g) h).2)
  clear s
  go_enter Try.func35, Try.ntmps35
  go_wp2_with fail
  refine (from_val (S := (K : Int)) (v := .slice sa A.length cap) (G := G) hb0 hb1 (by omega) _).mono ?_
  rintro e w1 ⟨rfl, hb⟩
  have S1 := Lib.hid ((S0.out.next (w' := _) (balloc (balloc (balloc (Below.refl _ w) (.cells #[.int .i64 (K : Int), .int .i64 B, .slice sa A.length cap, .int .i64 (G : Int)] 72)) (.cells #[.int .u8 kind, .int .u8 c, .int .i64 N, bs] 57)) (.cells #[.int .i64 0, .int .i64 0, .slice none 0 0, .int .i64 0] 72))).next hb)
  have Y4 := Lib.hid (carry hb X4.out); have Y5 := Lib.hid (carry hb X5.out); have Y6 := Lib.hid (carry hb X6.out)
  have W1 := Lib.hid (bnext B0.out hb)
  clear hb X4 X5 X6 B0
  obtain ⟨m0, m1, m2, m3⟩ := cell_4 Y4.out
  obtain ⟨n0, n1, n2, n3⟩ := cell_4 Y5.out
  have hw1 := W1.out.size
  have HDL := Lib.hid hdl
  have HSZ := Lib.hid hsz
  rw [hdl] at hsz
  clear hdl
  dsimp only
  have HF := Lib.hid hf
  clear hf
  go_wp2_with fail
  refine (bput S1.out.buf (by rw [HDL.out]; have := HF.out; omega) (by rw [HDL.out]; omega)).mono ?_
  rintro e w2 ⟨rfl, hbf, hr⟩
  have BF2 := Lib.hid hbf
  clear hbf
  have Z4 := Lib.hid (Rg.keep hr (.inr (by omega)) Y4.out)
  have Z5 := Lib.hid (Rg.keep hr (.inr (by omega)) Y5.out)
  have Z6 := Lib.hid (Rg.keep hr (.inr (by omega)) Y6.out)
  have RO2 := Lib.hid (S1.out.row.rgb S1.out.apart hr)
  have RG2 := Lib.hid ((Rg.below W1.out (Nat.le_of_lt hbl)).trans hr)
  have hw2 := RG2.out.high.size
  clear hr
  clear m0 m1 m2 m3 n0 n1 n2 n3
  obtain ⟨m0, m1, m2, m3⟩ := cell_4 Z4.out
  obtain ⟨n0, n1, n2, n3⟩ := cell_4 Z5.out
  obtain ⟨d0, d1, d2, d3⟩ := cell_4 Z6.out
  obtain ⟨e0, e1, e2, e3⟩ := free_4 Z6.out
  have l6 := lt_of_block Z6.out
  dsimp only
  go_wp2_with fail
  refine (rput_ok (S := (K : Int)) (B := B) (c := c) hcap hGl (by omega) hb0 hb1 (by have := HF.out; omega) hl _ RO2.out.reads).mono ?_
  rintro e w3 ⟨v', rfl, hrow, hb⟩
  have RO3 := Lib.hid hrow
  obtain ⟨sb, cb, hv', hcb⟩ := RO3.out.le
  rw [List.length_append, List.length_singleton] at hv'
  subst hv'
  clear hrow
  have BF3 := Lib.hid (BF2.out.next hb)
  have RG3 := Lib.hid (RG2.out.next hb (Nat.le_of_lt hbl))
  have V4 := Lib.hid (carry hb Z4.out)
  have V5 := Lib.hid (carry hb Z5.out)
  have V6 := Lib.hid (carry hb Z6.out)
  have hw3 := hb.size
  clear hb d0 d1 d2 d3 e0 e1 e2 e3
  clear m0 m1 m2 m3 n0 n1 n2 n3
  obtain ⟨m0, m1, m2, m3⟩ := cell_4 V4.out
  obtain ⟨n0, n1, n2, n3⟩ := cell_4 V5.out
  obtain ⟨d0, d1, d2, d3⟩ := cell_4 V6.out
  obtain ⟨e0, e1, e2, e3⟩ := free_4 V6.out
  have l6 := lt_of_block V6.out
  dsimp only
  go_wp2_with fail
  have WF := Lib.hid (Below.refl w.heap.size w3)
  refine bodyPost_ret (v := .tuple #[rv K B (.slice sb (A.length + 1) cb) G, .bool true]) (by simp [results, Try.results35, go_sem, d0, d1, d2, d3, l6]) rfl ?_
  refine ⟨_, A ++ [c], G, rfl, ⟨?_, ?_, ?_, by rw [List.length_append]; omega, u8_bytes S1.out.byt hc0 hc1, hb0, hb1⟩, by rw [List.length_append]; exact Nat.le_refl _, ?_⟩
  · rw [List.drop_append_of_le_length hGl]
    refine BF3.out.under (n := w.heap.size) ?_ hbl
    (repeat' (first | with_reducible exact WF.out | with_reducible refine bset ?_ ?_ _ | with_reducible refine ballo ?_ ?_ _)); all_goals (first | omega | (simp; omega))
  · refine Row.low (B := w2.heap.size) ?_ (Nat.zero_le _)
    exact ((((RO3.out.set (by omega)).set (by omega)).set (by omega)).set (by omega)).next (balloc (Below.refl _ _) _)
  · intro g h
    have := (RO3.out.own_lt h).1
    omega
  · (repeat' (first | with_reducible exact RG3.out | with_reducible refine Rg.setNew ?_ ?_ ?_ _ | with_reducible refine Rg.next ?_ (balloc (Below.refl _ _) _) ?_)); all_goals omega

set_option maxRecDepth 100000 in
set_option maxHeartbeats 4000000 in
theorem do_put2_full {w : World} {b K G : Nat} {B kind c N : Int} {v bs : Value} {A : List Int} (s : DS w b K B v A G) (hA : A.length ≤ 80000) (hk0 : 0 ≤ kind) (hk1 : kind ≤ 255) (hc0 : 0 ≤ c) (hc1 : c ≤ 255) (hf : A.length - G = K) (hk : kind % 8 = 2) :
    Calls Try.prog 35 #[at0 b, rv K B v G, actv kind c N bs] w (DoRes b K B A.length w) := by
  obtain ⟨sa, cap, rfl, hcap⟩ := s.row.le
  have S0 := Lib.hid s
  have hbl : b < w.heap.size := s.buf.lt
  have X4 := Lib.hid (al (x := .cells #[.int .i64 0, .int .i64 0, .slice none 0 0, .int .i64 0] 72) (al (x := .cells #[.int .u8 kind, .int .u8 c, .int .i64 N, bs] 57) (nw (w := w) (o := .cells #[.int .i64 (K : Int), .int .i64 B, .slice sa A.length cap, .int .i64 (G : Int)] 72))))
  have X5 := Lib.hid (al (x := .cells #[.int .i64 0, .int .i64 0, .slice none 0 0, .int .i64 0] 72) (nwk (w := w.alloc (.cells #[.int .i64 (K : Int), .int .i64 B, .slice sa A.length cap, .int .i64 (G : Int)] 72)) (o := .cells #[.int .u8 kind, .int .u8 c, .int .i64 N, bs] 57) (k := w.heap.size + 1) (by simp)))
  have X6 := Lib.hid (nwk (w := (w.alloc (.cells #[.int .i64 (K : Int), .int .i64 B, .slice sa A.length cap, .int .i64 (G : Int)] 72)).alloc (.cells #[.int .u8 kind, .int .u8 c, .int .i64 N, bs] 57)) (o := .cells #[.int .i64 0, .int .i64 0, .slice none 0 0, .int .i64 0] 72) (k := w.heap.size + 1 + 1) (by simp))
  have B0 := Lib.hid (balloc (balloc (balloc (Below.refl _ w) (.cells #[.int .i64 (K : Int), .int .i64 B, .slice sa A.length cap, .int .i64 (G : Int)] 72)) (.cells #[.int .u8 kind, .int .u8 c, .int .i64 N, bs] 57)) (.cells #[.int .i64 0, .int .i64 0, .slice none 0 0, .int .i64 0] 72))
  have hk' : kind.tmod 8 = 2 := by rw [Int.tmod_eq_emod_of_nonneg hk0]; exact hk
  have hGl := s.hG
  have hb0 := s.b0
  have hb1 := s.b1
  have hsz := s.buf.size_le
  have hdl : (A.drop G).length = A.length - G := List.length_drop
  have OWN := Lib.hid (fun g h => (s.row.own_lt (g := g) h).2)
  clear s
  go_enter Try.func35, Try.ntmps35
  go_wp2_with fail
  refine (from_val (S := (K : Int)) (v := .slice sa A.length cap) (G := G) hb0 hb1 (by omega) _).mono ?_
  rintro e w1 ⟨rfl, hb⟩
  have S1 := Lib.hid ((S0.out.next (w' := _) (balloc (balloc (balloc (Below.refl _ w) (.cells #[.int .i64 (K : Int), .int .i64 B, .slice sa A.length cap, .int .i64 (G : Int)] 72)) (.cells #[.int .u8 kind, .int .u8 c, .int .i64 N, bs] 57)) (.cells #[.int .i64 0, .int .i64 0, .slice none 0 0, .int .i64 0] 72))).next hb)
  have Y4 := Lib.hid (carry hb X4.out); have Y5 := Lib.hid (carry hb X5.out); have Y6 := Lib.hid (carry hb X6.out)
  have W1 := Lib.hid (bnext B0.out hb)
  clear hb X4 X5 X6 B0
  obtain ⟨m0, m1, m2, m3⟩ := cell_4 Y4.out
  obtain ⟨n0, n1, n2, n3⟩ := cell_4 Y5.out
  have hw1 := W1.out.size
  have HDL := Lib.hid hdl
  have HSZ := Lib.hid hsz
  rw [hdl] at hsz
  clear hdl
  dsimp only
  have HF := Lib.hid hf
  clear hf
  go_wp2_with fail
  refine (bput_full S1.out.buf (by rw [HDL.out, HF.out])).mono ?_
  rintro e w2 ⟨rfl, hb⟩
  have hr : Rg b (b + 1) w1 w2 := Rg.below hb (by omega)
  have Z4 := Lib.hid (Rg.keep hr (.inr (by omega)) Y4.out)
  have Z5 := Lib.hid (Rg.keep hr (.inr (by omega)) Y5.out)
  have Z6 := Lib.hid (Rg.keep hr (.inr (by omega)) Y6.out)
  have RO2 := Lib.hid (S1.out.row.rgb S1.out.apart hr)
  have RG2 := Lib.hid ((Rg.below W1.out (Nat.le_of_lt hbl)).trans hr)
  have hw2 := RG2.out.high.size
  have BF2 := Lib.hid (S1.out.buf.next hb)
  clear hb
  clear hr
  clear m0 m1 m2 m3 n0 n1 n2 n3
  obtain ⟨m0, m1, m2, m3⟩ := cell_4 Z4.out
  obtain ⟨n0, n1, n2, n3⟩ := cell_4 Z5.out
  obtain ⟨d0, d1, d2, d3⟩ := cell_4 Z6.out
  obtain ⟨e0, e1, e2, e3⟩ := free_4 Z6.out
  have l6 := lt_of_block Z6.out
  dsimp only
  go_wp2_with fail
  refine (rput_full (S := (K : Int)) (B := B) (c := c) hcap hGl (by rw [HF.out]) _).mono ?_
  rintro e w3 ⟨rfl, hb⟩
  have BF3 := Lib.hid (BF2.out.next hb)
  have RG3 := Lib.hid (RG2.out.next hb (Nat.le_of_lt hbl))
  have RO3 := Lib.hid (RO2.out.next hb)
  have V4 := Lib.hid (carry hb Z4.out)
  have V5 := Lib.hid (carry hb Z5.out)
  have V6 := Lib.hid (carry hb Z6.out)
  have hw3 := hb.size
  clear hb d0 d1 d2 d3 e0 e1 e2 e3
  clear m0 m1 m2 m3 n0 n1 n2 n3
  obtain ⟨m0, m1, m2, m3⟩ := cell_4 V4.out
  obtain ⟨n0, n1, n2, n3⟩ := cell_4 V5.out
  obtain ⟨d0, d1, d2, d3⟩ := cell_4 V6.out
  obtain ⟨e0, e1, e2, e3⟩ := free_4 V6.out
  have l6 := lt_of_block V6.out
  dsimp only
  go_wp2_with fail
  have WF := Lib.hid (Below.refl w.heap.size w3)
  refine bodyPost_ret (v := .tuple #[rv K B (.slice sa A.length cap) G, .bool true]) (by simp [results, Try.results35, go_sem, d0, d1, d2, d3, l6]) rfl ?_
  refine ⟨_, A, G, rfl, ⟨?_, ?_, S1.out.apart, hGl, S1.out.byt, hb0, hb1⟩, by omega, ?_⟩
  · refine BF3.out.under (n := w.heap.size) ?_ hbl
    (repeat' (first | with_reducible exact WF.out | with_reducible refine bset ?_ ?_ _ | with_reducible refine ballo ?_ ?_ _)); all_goals (first | omega | (simp; omega))
  · refine RO3.out.lowN (n := w.heap.size) (fun g h => OWN.out g h) ?_
    (repeat' (first | with_reducible exact WF.out | with_reducible refine bset ?_ ?_ _ | with_reducible refine ballo ?_ ?_ _)); all_goals (first | omega | (simp; omega))
  · (repeat' (first | with_reducible exact RG3.out | with_reducible refine Rg.setNew ?_ ?_ ?_ _ | with_reducible refine Rg.next ?_ (balloc (Below.refl _ _) _) ?_)); all_goals omega

set_option maxRecDepth 100000 in
set_option maxHeartbeats 4000000 in
theorem do_put2_long {w : World} {b K G : Nat} {B kind c N : Int} {v bs : Value} {A : List Int} (s : DS w b K B v A G) (hA : A.length ≤ 80000) (hk0 : 0 ≤ kind) (hk1 : kind ≤ 255) (hc0 : 0 ≤ c) (hc1 : c ≤ 255) (hf : A.length - G ≠ K) (hl : B + (A.length : Int) = 281474976710656) (hk : kind % 8 = 2) :
    Calls Try.prog 35 #[at0 b, rv K B v G, actv kind c N bs] w (DoRes b K B A.length w) := by
  obtain ⟨sa, cap, rfl, hcap⟩ := s.row.le
  have S0 := Lib.hid s
  have hbl : b < w.heap.size := s.buf.lt
  have X4 := Lib.hid (al (x := .cells #[.int .i64 0, .int .i64 0, .slice none 0 0, .int .i64 0] 72) (al (x := .cells #[.int .u8 kind, .int .u8 c, .int .i64 N, bs] 57) (nw (w := w) (o := .cells #[.int .i64 (K : Int), .int .i64 B, .slice sa A.length cap, .int .i64 (G : Int)] 72))))
  have X5 := Lib.hid (al (x := .cells #[.int .i64 0, .int .i64 0, .slice none 0 0, .int .i64 0] 72) (nwk (w := w.alloc (.cells #[.int .i64 (K : Int), .int .i64 B, .slice sa A.length cap, .int .i64 (G : Int)] 72)) (o := .cells #[.int .u8 kind, .int .u8 c, .int .i64 N, bs] 57) (k := w.heap.size + 1) (by simp)))
  have X6 := Lib.hid (nwk (w := (w.alloc (.cells #[.int .i64 (K : Int), .int .i64 B, .slice sa A.length cap, .int .i64 (G : Int)] 72)).alloc (.cells #[.int .u8 kind, .int .u8 c, .int .i64 N, bs] 57)) (o := .cells #[.int .i64 0, .int .i64 0, .slice none 0 0, .int .i64 0] 72) (k := w.heap.size + 1 + 1) (by simp))
  have B0 := Lib.hid (balloc (balloc (balloc (Below.refl _ w) (.cells #[.int .i64 (K : Int), .int .i64 B, .slice sa A.length cap, .int .i64 (G : Int)] 72)) (.cells #[.int .u8 kind, .int .u8 c, .int .i64 N, bs] 57)) (.cells #[.int .i64 0, .int .i64 0, .slice none 0 0, .int .i64 0] 72))
  have hk' : kind.tmod 8 = 2 := by rw [Int.tmod_eq_emod_of_nonneg hk0]; exact hk
  have hGl := s.hG
  have hb0 := s.b0
  have hb1 := s.b1
  have hsz := s.buf.size_le
  have hdl : (A.drop G).length = A.length - G := List.length_drop
  have OWN := Lib.hid (fun g h => (s.row.own_lt (g := g) h).2)
  clear s
  go_enter Try.func35, Try.ntmps35
  go_wp2_with fail
  refine (from_val (S := (K : Int)) (v := .slice sa A.length cap) (G := G) hb0 hb1 (by omega) _).mono ?_
  rintro e w1 ⟨rfl, hb⟩
  have S1 := Lib.hid ((S0.out.next (w' := _) (balloc (balloc (balloc (Below.refl _ w) (.cells #[.int .i64 (K : Int), .int .i64 B, .slice sa A.length cap, .int .i64 (G : Int)] 72)) (.cells #[.int .u8 kind, .int .u8 c, .int .i64 N, bs] 57)) (.cells #[.int .i64 0, .int .i64 0, .slice none 0 0, .int .i64 0] 72))).next hb)
  have Y4 := Lib.hid (carry hb X4.out); have Y5 := Lib.hid (carry hb X5.out); have Y6 := Lib.hid (carry hb X6.out)
  have W1 := Lib.hid (bnext B0.out hb)
  clear hb X4 X5 X6 B0
  obtain ⟨m0, m1, m2, m3⟩ := cell_4 Y4.out
  obtain ⟨n0, n1, n2, n3⟩ := cell_4 Y5.out
  have hw1 := W1.out.size
  have HDL := Lib.hid hdl
  have HSZ := Lib.hid hsz
  rw [hdl] at hsz
  clear hdl
  dsimp only
  have HF := Lib.hid hf
  clear hf
  go_wp2_with fail
  refine (bput_long S1.out.buf (by rw [HDL.out]; have := HF.out; omega) (by rw [HDL.out]; omega)).mono ?_
  rintro e w2 ⟨rfl, hb⟩
  have hr : Rg b (b + 1) w1 w2 := Rg.below hb (by omega)
  have Z4 := Lib.hid (Rg.keep hr (.inr (by omega)) Y4.out)
  have Z5 := Lib.hid (Rg.keep hr (.inr (by omega)) Y5.out)
  have Z6 := Lib.hid (Rg.keep hr (.inr (by omega)) Y6.out)
  have RO2 := Lib.hid (S1.out.row.rgb S1.out.apart hr)
  have RG2 := Lib.hid ((Rg.below W1.out (Nat.le_of_lt hbl)).trans hr)
  have hw2 := RG2.out.high.size
  have BF2 := Lib.hid (S1.out.buf.next hb)
  clear hb
  clear hr
  clear m0 m1 m2 m3 n0 n1 n2 n3
  obtain ⟨m0, m1, m2, m3⟩ := cell_4 Z4.out
  obtain ⟨n0, n1, n2, n3⟩ := cell_4 Z5.out
  obtain ⟨d0, d1, d2, d3⟩ := cell_4 Z6.out
  obtain ⟨e0, e1, e2, e3⟩ := free_4 Z6.out
  have l6 := lt_of_block Z6.out
  dsimp only
  go_wp2_with fail
  refine (rput_long (S := (K : Int)) (B := B) (c := c) hcap hGl (by omega) hb0 hb1 (by have := HF.out; omega) (by omega) _).mono ?_
  rintro e w3 ⟨rfl, hb⟩
  have BF3 := Lib.hid (BF2.out.next hb)
  have RG3 := Lib.hid (RG2.out.next hb (Nat.le_of_lt hbl))
  have RO3 := Lib.hid (RO2.out.next hb)
  have V4 := Lib.hid (carry hb Z4.out)
  have V5 := Lib.hid (carry hb Z5.out)
  have V6 := Lib.hid (carry hb Z6.out)
  have hw3 := hb.size
  clear hb d0 d1 d2 d3 e0 e1 e2 e3
  clear m0 m1 m2 m3 n0 n1 n2 n3
  obtain ⟨m0, m1, m2, m3⟩ := cell_4 V4.out
  obtain ⟨n0, n1, n2, n3⟩ := cell_4 V5.out
  obtain ⟨d0, d1, d2, d3⟩ := cell_4 V6.out
  obtain ⟨e0, e1, e2, e3⟩ := free_4 V6.out
  have l6 := lt_of_block V6.out
  dsimp only
  go_wp2_with fail
  have WF := Lib.hid (Below.refl w.heap.size w3)
  refine bodyPost_ret (v := .tuple #[rv K B (.slice sa A.length cap) G, .bool true]) (by simp [results, Try.results35, go_sem, d0, d1, d2, d3, l6]) rfl ?_
  refine ⟨_, A, G, rfl, ⟨?_, ?_, S1.out.apart, hGl, S1.out.byt, hb0, hb1⟩, by omega, ?_⟩
  · refine BF3.out.under (n := w.heap.size) ?_ hbl
    (repeat' (first | with_reducible exact WF.out | with_reducible refine bset ?_ ?_ _ | with_reducible refine ballo ?_ ?_ _)); all_goals (first | omega | (simp; omega))
  · refine RO3.out.lowN (n := w.heap.size) (fun g h => OWN.out g h) ?_
    (repeat' (first | with_reducible exact WF.out | with_reducible refine bset ?_ ?_ _ | with_reducible refine ballo ?_ ?_ _)); all_goals (first | omega | (simp; omega))
  · (repeat' (first | with_reducible exact RG3.out | with_reducible refine Rg.setNew ?_ ?_ ?_ _ | with_reducible refine Rg.next ?_ (balloc (Below.refl _ _) _) ?_)); all_goals omega

set_option maxRecDepth 100000 in
set_option maxHeartbeats 4000000 in
theorem do_put2_ok {w : World} {b K G : Nat} {B kind c N : Int} {v bs : Value} {A : List Int} (s : DS w b K B v A G) (hA : A.length ≤ 80000) (hk0 : 0 ≤ kind) (hk1 : kind ≤ 255) (hc0 : 0 ≤ c) (hc1 : c ≤ 255) (hf : A.length - G ≠ K) (hl : B + (A.length : Int) < 281474976710656) (hk : kind % 8 = 2) :
    Calls Try.prog 35 #[at0 b, rv K B v G, actv kind c N bs] w (DoRes b K B A.length w) := by
  obtain ⟨sa, cap, rfl, hcap⟩ := s.row.le
  have S0 := Lib.hid s
  have hbl : b < w.heap.size := s.buf.lt
  have X4 := Lib.hid (al (x := .cells #[.int .i64 0, .int .i64 0, .slice none 0 0, .int .i64 0] 72) (al (x := .cells #[.int .u8 kind, .int .u8 c, .int .i64 N, bs] 57) (nw (w := w) (o := .cells #[.int .i64 (K : Int), .int .i64 B, .slice sa A.length cap, .int .i64 (G : Int)] 72))))
  have X5 := Lib.hid (al (x := .cells #[.int .i64 0, .int .i64 0, .slice none 0 0, .int .i64 0] 72) (nwk (w := w.alloc (.cells #[.int .i64 (K : Int), .int .i64 B, .slice sa A.length cap, .int .i64 (G : Int)] 72)) (o := .cells #[.int .u8 kind, .int .u8 c, .int .i64 N, bs] 57) (k := w.heap.size + 1) (by simp)))
  have X6 := Lib.hid (nwk (w := (w.alloc (.cells #[.int .i64 (K : Int), .int .i64 B, .slice sa A.length cap, .int .i64 (G : Int)] 72)).alloc (.cells #[.int .u8 kind, .int .u8 c, .int .i64 N, bs] 57)) (o := .cells #[.int .i64 0, .int .i64 0, .slice none 0 0, .int .i64 0] 72) (k := w.heap.size + 1 + 1) (by simp))
  have B0 := Lib.hid (balloc (balloc (balloc (Below.refl _ w) (.cells #[.int .i64 (K : Int), .int .i64 B, .slice sa A.length cap, .int .i64 (G : Int)] 72)) (.cells #[.int .u8 kind, .int .u8 c, .int .i64 N, bs] 57)) (.cells #[.int .i64 0, .int .i64 0, .slice none 0 0, .int .i64 0] 72))
  have hk' : kind.tmod 8 = 2 := by rw [Int.tmod_eq_emod_of_nonneg hk0]; exact hk
  have hGl := s.hG
  have hb0 := s.b0
  have hb1 := s.b1
  have hsz := s.buf.size_le
  have hdl : (A.drop G).length = A.length - G := List.length_drop
  have OWN := Lib.hid (fun g h => (s.row.own_lt (g := g) h).2)
  clear s
  go_enter Try.func35, Try.ntmps35
  go_wp2_with fail
  refine (from_val (S := (K : Int)) (v := .slice sa A.length cap) (G := G) hb0 hb1 (by omega) _).mono ?_
  rintro e w1 ⟨rfl, hb⟩
  have S1 := Lib.hid ((S0.out.next (w' := _) (balloc (balloc (balloc (Below.refl _ w) (.cells #[.int .i64 (K : Int), .int .i64 B, .slice sa A.length cap, .int .i64 (G : Int)] 72)) (.cells #[.int .u8 kind, .int .u8 c, .int .i64 N, bs] 57)) (.cells #[.int .i64 0, .int .i64 0, .slice none 0 0, .int .i64 0] 72))).next hb)
  have Y4 := Lib.hid (carry hb X4.out); have Y5 := Lib.hid (carry hb X5.out); have Y6 := Lib.hid (carry hb X6.out)
  have W1 := Lib.hid (bnext B0.out hb)
  clear hb X4 X5 X6 B0
  obtain ⟨m0, m1, m2, m3⟩ := cell_4 Y4.out
  obtain ⟨n0, n1, n2, n3⟩ := cell_4 Y5.out
  have hw1 := W1.out.size
  have HDL := Lib.hid hdl
  have HSZ := Lib.hid hsz
  rw [hdl] at hsz
  clear hdl
  dsimp only
  have HF := Lib.hid hf
  clear hf
  go_wp2_with fail
  refine (bput S1.out.buf (by rw [HDL.out]; have := HF.out; omega) (by rw [HDL.out]; omega)).mono ?_
  rintro e w2 ⟨rfl, hbf, hr⟩
  have BF2 := Lib.hid hbf
  clear hbf
  have Z4 := Lib.hid (Rg.keep hr (.inr (by omega)) Y4.out)
  have Z5 := Lib.hid (Rg.keep hr (.inr (by omega)) Y5.out)
  have Z6 := Lib.hid (Rg.keep hr (.inr (by omega)) Y6.out)
  have RO2 := Lib.hid (S1.out.row.rgb S1.out.apart hr)
  have RG2 := Lib.hid ((Rg.below W1.out (Nat.le_of_lt hbl)).trans hr)
  have hw2 := RG2.out.high.size
  clear hr
  clear m0 m1 m2 m3 n0 n1 n2 n3
  obtain ⟨m0, m1, m2, m3⟩ := cell_4 Z4.out
  obtain ⟨n0, n1, n2, n3⟩ := cell_4 Z5.out
  obtain ⟨d0, d1, d2, d3⟩ := cell_4 Z6.out
  obtain ⟨e0, e1, e2, e3⟩ := free_4 Z6.out
  have l6 := lt_of_block Z6.out
  dsimp only
  go_wp2_with fail
  refine (rput_ok (S := (K : Int)) (B := B) (c := c) hcap hGl (by omega) hb0 hb1 (by have := HF.out; omega) hl _ RO2.out.reads).mono ?_
  rintro e w3 ⟨v', rfl, hrow, hb⟩
  have RO3 := Lib.hid hrow
  obtain ⟨sb, cb, hv', hcb⟩ := RO3.out.le
  rw [List.length_append, List.length_singleton] at hv'
  subst hv'
  clear hrow
  have BF3 := Lib.hid (BF2.out.next hb)
  have RG3 := Lib.hid (RG2.out.next hb (Nat.le_of_lt hbl))
  have V4 := Lib.hid (carry hb Z4.out)
  have V5 := Lib.hid (carry hb Z5.out)
  have V6 := Lib.hid (carry hb Z6.out)
  have hw3 := hb.size
  clear hb d0 d1 d2 d3 e0 e1 e2 e3
  clear m0 m1 m2 m3 n0 n1 n2 n3
  obtain ⟨m0, m1, m2, m3⟩ := cell_4 V4.out
  obtain ⟨n0, n1, n2, n3⟩ := cell_4 V5.out
  obtain ⟨d0, d1, d2, d3⟩ := cell_4 V6.out
  obtain ⟨e0, e1, e2, e3⟩ := free_4 V6.out
  have l6 := lt_of_block V6.out
  dsimp only
  go_wp2_with fail
  have WF := Lib.hid (Below.refl w.heap.size w3)
  refine bodyPost_ret (v := .tuple #[rv K B (.slice sb (A.length + 1) cb) G, .bool true]) (by simp [results, Try.results35, go_sem, d0, d1, d2, d3, l6]) rfl ?_
  refine ⟨_, A ++ [c], G, rfl, ⟨?_, ?_, ?_, by rw [List.length_append]; omega, u8_bytes S1.out.byt hc0 hc1, hb0, hb1⟩, by rw [List.length_append]; exact Nat.le_refl _, ?_⟩
  · rw [List.drop_append_of_le_length hGl]
    refine BF3.out.under (n := w.heap.size) ?_ hbl
    (repeat' (first | with_reducible exact WF.out | with_reducible refine bset ?_ ?_ _ | with_reducible refine ballo ?_ ?_ _)); all_goals (first | omega | (simp; omega))
  · refine Row.low (B := w2.heap.size) ?_ (Nat.zero_le _)
    exact ((((RO3.out.set (by omega)).set (by omega)).set (by omega)).set (by omega)).next (balloc (Below.refl _ _) _)
  · intro g h
    have := (RO3.out.own_lt h).1
    omega
  · (repeat' (first | with_reducible exact RG3.out | with_reducible refine Rg.setNew ?_ ?_ ?_ _ | with_reducible refine Rg.next ?_ (balloc (Below.refl _ _) _) ?_)); all_goals omega

set_option maxRecDepth 100000 in
set_option maxHeartbeats 4000000 in
theorem do_put3_full {w : World} {b K G : Nat} {B kind c N : Int} {v bs : Value} {A : List Int} (s : DS w b K B v A G) (hA : A.length ≤ 80000) (hk0 : 0 ≤ kind) (hk1 : kind ≤ 255) (hc0 : 0 ≤ c) (hc1 : c ≤ 255) (hf : A.length - G = K) (hk : kind % 8 = 3) :
    Calls Try.prog 35 #[at0 b, rv K B v G, actv kind c N bs] w (DoRes b K B A.length w) := by
  obtain ⟨sa, cap, rfl, hcap⟩ := s.row.le
  have S0 := Lib.hid s
  have hbl : b < w.heap.size := s.buf.lt
  have X4 := Lib.hid (al (x := .cells #[.int .i64 0, .int .i64 0, .slice none 0 0, .int .i64 0] 72) (al (x := .cells #[.int .u8 kind, .int .u8 c, .int .i64 N, bs] 57) (nw (w := w) (o := .cells #[.int .i64 (K : Int), .int .i64 B, .slice sa A.length cap, .int .i64 (G : Int)] 72))))
  have X5 := Lib.hid (al (x := .cells #[.int .i64 0, .int .i64 0, .slice none 0 0, .int .i64 0] 72) (nwk (w := w.alloc (.cells #[.int .i64 (K : Int), .int .i64 B, .slice sa A.length cap, .int .i64 (G : Int)] 72)) (o := .cells #[.int .u8 kind, .int .u8 c, .int .i64 N, bs] 57) (k := w.heap.size + 1) (by simp)))
  have X6 := Lib.hid (nwk (w := (w.alloc (.cells #[.int .i64 (K : Int), .int .i64 B, .slice sa A.length cap, .int .i64 (G : Int)] 72)).alloc (.cells #[.int .u8 kind, .int .u8 c, .int .i64 N, bs] 57)) (o := .cells #[.int .i64 0, .int .i64 0, .slice none 0 0, .int .i64 0] 72) (k := w.heap.size + 1 + 1) (by simp))
  have B0 := Lib.hid (balloc (balloc (balloc (Below.refl _ w) (.cells #[.int .i64 (K : Int), .int .i64 B, .slice sa A.length cap, .int .i64 (G : Int)] 72)) (.cells #[.int .u8 kind, .int .u8 c, .int .i64 N, bs] 57)) (.cells #[.int .i64 0, .int .i64 0, .slice none 0 0, .int .i64 0] 72))
  have hk' : kind.tmod 8 = 3 := by rw [Int.tmod_eq_emod_of_nonneg hk0]; exact hk
  have hGl := s.hG
  have hb0 := s.b0
  have hb1 := s.b1
  have hsz := s.buf.size_le
  have hdl : (A.drop G).length = A.length - G := List.length_drop
  have OWN := Lib.hid (fun g h => (s.row.own_lt (g := g) h).2)
  clear s
  go_enter Try.func35, Try.ntmps35
  go_wp2_with fail
  refine (from_val (S := (K : Int)) (v := .slice sa A.length cap) (G := G) hb0 hb1 (by omega) _).mono ?_
  rintro e w1 ⟨rfl, hb⟩
  have S1 := Lib.hid ((S0.out.next (w' := _) (balloc (balloc (balloc (Below.refl _ w) (.cells #[.int .i64 (K : Int), .int .i64 B, .slice sa A.length cap, .int .i64 (G : Int)] 72)) (.cells #[.int .u8 kind, .int .u8 c, .int .i64 N, bs] 57)) (.cells #[.int .i64 0, .int .i64 0, .slice none 0 0, .int .i64 0] 72))).next hb)
  have Y4 := Lib.hid (carry hb X4.out); have Y5 := Lib.hid (carry hb X5.out); have Y6 := Lib.hid (carry hb X6.out)
  have W1 := Lib.hid (bnext B0.out hb)
  clear hb X4 X5 X6 B0
  obtain ⟨m0, m1, m2, m3⟩ := cell_4 Y4.out
  obtain ⟨n0, n1, n2, n3⟩ := cell_4 Y5.out
  have hw1 := W1.out.size
  have HDL := Lib.hid hdl
  have HSZ := Lib.hid hsz
  rw [hdl] at hsz
  clear hdl
  dsimp only
  have HF := Lib.hid hf
  clear hf
  go_wp2_with fail
  refine (bput_full S1.out.buf (by rw [HDL.out, HF.out])).mono ?_
  rintro e w2 ⟨rfl, hb⟩
  have hr : Rg b (b + 1) w1 w2 := Rg.below hb (by omega)
  have Z4 := Lib.hid (Rg.keep hr (.inr (by omega)) Y4.out)
  have Z5 := Lib.hid (Rg.keep hr (.inr (by omega)) Y5.out)
  have Z6 := Lib.hid (Rg.keep hr (.inr (by omega)) Y6.out)
  have RO2 := Lib.hid (S1.out.row.rgb S1.out.apart hr)
  have RG2 := Lib.hid ((Rg.below W1.out (Nat.le_of_lt hbl)).trans hr)
  have hw2 := RG2.out.high.size
  have BF2 := Lib.hid (S1.out.buf.next hb)
  clear hb
  clear hr
  clear m0 m1 m2 m3 n0 n1 n2 n3
  obtain ⟨m0, m1, m2, m3⟩ := cell_4 Z4.out
  obtain ⟨n0, n1, n2, n3⟩ := cell_4 Z5.out
  obtain ⟨d0, d1, d2, d3⟩ := cell_4 Z6.out
  obtain ⟨e0, e1, e2, e3⟩ := free_4 Z6.out
  have l6 := lt_of_block Z6.out
  dsimp only
  go_wp2_with fail
  refine (rput_full (S := (K : Int)) (B := B) (c := c) hcap hGl (by rw [HF.out]) _).mono ?_
  rintro e w3 ⟨rfl, hb⟩
  have BF3 := Lib.hid (BF2.out.next hb)
  have RG3 := Lib.hid (RG2.out.next hb (Nat.le_of_lt hbl))
  have RO3 := Lib.hid (RO2.out.next hb)
  have V4 := Lib.hid (carry hb Z4.out)
  have V5 := Lib.hid (carry hb Z5.out)
  have V6 := Lib.hid (carry hb Z6.out)
  have hw3 := hb.size
  clear hb d0 d1 d2 d3 e0 e1 e2 e3
  clear m0 m1 m2 m3 n0 n1 n2 n3
  obtain ⟨m0, m1, m2, m3⟩ := cell_4 V4.out
  obtain ⟨n0, n1, n2, n3⟩ := cell_4 V5.out
  obtain ⟨d0, d1, d2, d3⟩ := cell_4 V6.out
  obtain ⟨e0, e1, e2, e3⟩ := free_4 V6.out
  have l6 := lt_of_block V6.out
  dsimp only
  go_wp2_with fail
  have WF := Lib.hid (Below.refl w.heap.size w3)
  refine bodyPost_ret (v := .tuple #[rv K B (.slice sa A.length cap) G, .bool true]) (by simp [results, Try.results35, go_sem, d0, d1, d2, d3, l6]) rfl ?_
  refine ⟨_, A, G, rfl, ⟨?_, ?_, S1.out.apart, hGl, S1.out.byt, hb0, hb1⟩, by omega, ?_⟩
  · refine BF3.out.under (n := w.heap.size) ?_ hbl
    (repeat' (first | with_reducible exact WF.out | with_reducible refine bset ?_ ?_ _ | with_reducible refine ballo ?_ ?_ _)); all_goals (first | omega | (simp; omega))
  · refine RO3.out.lowN (n := w.heap.size) (fun g h => OWN.out g h) ?_
    (repeat' (first | with_reducible exact WF.out | with_reducible refine bset ?_ ?_ _ | with_reducible refine ballo ?_ ?_ _)); all_goals (first | omega | (simp; omega))
  · (repeat' (first | with_reducible exact RG3.out | with_reducible refine Rg.setNew ?_ ?_ ?_ _ | with_reducible refine Rg.next ?_ (balloc (Below.refl _ _) _) ?_)); all_goals omega

set_option maxRecDepth 100000 in
set_option maxHeartbeats 4000000 in
theorem do_put3_long {w : World} {b K G : Nat} {B kind c N : Int} {v bs : Value} {A : List Int} (s : DS w b K B v A G) (hA : A.length ≤ 80000) (hk0 : 0 ≤ kind) (hk1 : kind ≤ 255) (hc0 : 0 ≤ c) (hc1 : c ≤ 255) (hf : A.length - G ≠ K) (hl : B + (A.length : Int) = 281474976710656) (hk : kind % 8 = 3) :
    Calls Try.prog 35 #[at0 b, rv K B v G, actv kind c N bs] w (DoRes b K B A.length w) := by
  obtain ⟨sa, cap, rfl, hcap⟩ := s.row.le
  have S0 := Lib.hid s
  have hbl : b < w.heap.size := s.buf.lt
  have X4 := Lib.hid (al (x := .cells #[.int .i64 0, .int .i64 0, .slice none 0 0, .int .i64 0] 72) (al (x := .cells #[.int .u8 kind, .int .u8 c, .int .i64 N, bs] 57) (nw (w := w) (o := .cells #[.int .i64 (K : Int), .int .i64 B, .slice sa A.length cap, .int .i64 (G : Int)] 72))))
  have X5 := Lib.hid (al (x := .cells #[.int .i64 0, .int .i64 0, .slice none 0 0, .int .i64 0] 72) (nwk (w := w.alloc (.cells #[.int .i64 (K : Int), .int .i64 B, .slice sa A.length cap, .int .i64 (G : Int)] 72)) (o := .cells #[.int .u8 kind, .int .u8 c, .int .i64 N, bs] 57) (k := w.heap.size + 1) (by simp)))
  have X6 := Lib.hid (nwk (w := (w.alloc (.cells #[.int .i64 (K : Int), .int .i64 B, .slice sa A.length cap, .int .i64 (G : Int)] 72)).alloc (.cells #[.int .u8 kind, .int .u8 c, .int .i64 N, bs] 57)) (o := .cells #[.int .i64 0, .int .i64 0, .slice none 0 0, .int .i64 0] 72) (k := w.heap.size + 1 + 1) (by simp))
  have B0 := Lib.hid (balloc (balloc (balloc (Below.refl _ w) (.cells #[.int .i64 (K : Int), .int .i64 B, .slice sa A.length cap, .int .i64 (G : Int)] 72)) (.cells #[.int .u8 kind, .int .u8 c, .int .i64 N, bs] 57)) (.cells #[.int .i64 0, .int .i64 0, .slice none 0 0, .int .i64 0] 72))
  have hk' : kind.tmod 8 = 3 := by rw [Int.tmod_eq_emod_of_nonneg hk0]; exact hk
  have hGl := s.hG
  have hb0 := s.b0
  have hb1 := s.b1
  have hsz := s.buf.size_le
  have hdl : (A.drop G).length = A.length - G := List.length_drop
  have OWN := Lib.hid (fun g h => (s.row.own_lt (g := g) h).2)
  clear s
  go_enter Try.func35, Try.ntmps35
  go_wp2_with fail
  refine (from_val (S := (K : Int)) (v := .slice sa A.length cap) (G := G) hb0 hb1 (by omega) _).mono ?_
  rintro e w1 ⟨rfl, hb⟩
  have S1 := Lib.hid ((S0.out.next (w' := _) (balloc (balloc (balloc (Below.refl _ w) (.cells #[.int .i64 (K : Int), .int .i64 B, .slice sa A.length cap, .int .i64 (G : Int)] 72)) (.cells #[.int .u8 kind, .int .u8 c, .int .i64 N, bs] 57)) (.cells #[.int .i64 0, .int .i64 0, .slice none 0 0, .int .i64 0] 72))).next hb)
  have Y4 := Lib.hid (carry hb X4.out); have Y5 := Lib.hid (carry hb X5.out); have Y6 := Lib.hid (carry hb X6.out)
  have W1 := Lib.hid (bnext B0.out hb)
  clear hb X4 X5 X6 B0
  obtain ⟨m0, m1, m2, m3⟩ := cell_4 Y4.out
  obtain ⟨n0, n1, n2, n3⟩ := cell_4 Y5.out
  have hw1 := W1.out.size
  have HDL := Lib.hid hdl
  have HSZ := Lib.hid hsz
  rw [hdl] at hsz
  clear hdl
  dsimp only
  have HF := Lib.hid hf
  clear hf
  go_wp2_with fail
  refine (bput_long S1.out.buf (by rw [HDL.out]; have := HF.out; omega) (by rw [HDL.out]; omega)).mono ?_
  rintro e w2 ⟨rfl, hb⟩
  have hr : Rg b (b + 1) w1 w2 := Rg.below hb (by omega)
  have Z4 := Lib.hid (Rg.keep hr (.inr (by omega)) Y4.out)
  have Z5 := Lib.hid (Rg.keep hr (.inr (by omega)) Y5.out)
  have Z6 := Lib.hid (Rg.keep hr (.inr (by omega)) Y6.out)
  have RO2 := Lib.hid (S1.out.row.rgb S1.out.apart hr)
  have RG2 := Lib.hid ((Rg.below W1.out (Nat.le_of_lt hbl)).trans hr)
  have hw2 := RG2.out.high.size
  have BF2 := Lib.hid (S1.out.buf.next hb)
  clear hb
  clear hr
  clear m0 m1 m2 m3 n0 n1 n2 n3
  obtain ⟨m0, m1, m2, m3⟩ := cell_4 Z4.out
  obtain ⟨n0, n1, n2, n3⟩ := cell_4 Z5.out
  obtain ⟨d0, d1, d2, d3⟩ := cell_4 Z6.out
  obtain ⟨e0, e1, e2, e3⟩ := free_4 Z6.out
  have l6 := lt_of_block Z6.out
  dsimp only
  go_wp2_with fail
  refine (rput_long (S := (K : Int)) (B := B) (c := c) hcap hGl (by omega) hb0 hb1 (by have := HF.out; omega) (by omega) _).mono ?_
  rintro e w3 ⟨rfl, hb⟩
  have BF3 := Lib.hid (BF2.out.next hb)
  have RG3 := Lib.hid (RG2.out.next hb (Nat.le_of_lt hbl))
  have RO3 := Lib.hid (RO2.out.next hb)
  have V4 := Lib.hid (carry hb Z4.out)
  have V5 := Lib.hid (carry hb Z5.out)
  have V6 := Lib.hid (carry hb Z6.out)
  have hw3 := hb.size
  clear hb d0 d1 d2 d3 e0 e1 e2 e3
  clear m0 m1 m2 m3 n0 n1 n2 n3
  obtain ⟨m0, m1, m2, m3⟩ := cell_4 V4.out
  obtain ⟨n0, n1, n2, n3⟩ := cell_4 V5.out
  obtain ⟨d0, d1, d2, d3⟩ := cell_4 V6.out
  obtain ⟨e0, e1, e2, e3⟩ := free_4 V6.out
  have l6 := lt_of_block V6.out
  dsimp only
  go_wp2_with fail
  have WF := Lib.hid (Below.refl w.heap.size w3)
  refine bodyPost_ret (v := .tuple #[rv K B (.slice sa A.length cap) G, .bool true]) (by simp [results, Try.results35, go_sem, d0, d1, d2, d3, l6]) rfl ?_
  refine ⟨_, A, G, rfl, ⟨?_, ?_, S1.out.apart, hGl, S1.out.byt, hb0, hb1⟩, by omega, ?_⟩
  · refine BF3.out.under (n := w.heap.size) ?_ hbl
    (repeat' (first | with_reducible exact WF.out | with_reducible refine bset ?_ ?_ _ | with_reducible refine ballo ?_ ?_ _)); all_goals (first | omega | (simp; omega))
  · refine RO3.out.lowN (n := w.heap.size) (fun g h => OWN.out g h) ?_
    (repeat' (first | with_reducible exact WF.out | with_reducible refine bset ?_ ?_ _ | with_reducible refine ballo ?_ ?_ _)); all_goals (first | omega | (simp; omega))
  · (repeat' (first | with_reducible exact RG3.out | with_reducible refine Rg.setNew ?_ ?_ ?_ _ | with_reducible refine Rg.next ?_ (balloc (Below.refl _ _) _) ?_)); all_goals omega

set_option maxRecDepth 100000 in
set_option maxHeartbeats 4000000 in
theorem do_put3_ok {w : World} {b K G : Nat} {B kind c N : Int} {v bs : Value} {A : List Int} (s : DS w b K B v A G) (hA : A.length ≤ 80000) (hk0 : 0 ≤ kind) (hk1 : kind ≤ 255) (hc0 : 0 ≤ c) (hc1 : c ≤ 255) (hf : A.length - G ≠ K) (hl : B + (A.length : Int) < 281474976710656) (hk : kind % 8 = 3) :
    Calls Try.prog 35 #[at0 b, rv K B v G, actv kind c N bs] w (DoRes b K B A.length w) := by
  obtain ⟨sa, cap, rfl, hcap⟩ := s.row.le
  have S0 := Lib.hid s
  have hbl : b < w.heap.size := s.buf.lt
  have X4 := Lib.hid (al (x := .cells #[.int .i64 0, .int .i64 0, .slice none 0 0, .int .i64 0] 72) (al (x := .cells #[.int .u8 kind, .int .u8 c, .int .i64 N, bs] 57) (nw (w := w) (o := .cells #[.int .i64 (K : Int), .int .i64 B, .slice sa A.length cap, .int .i64 (G : Int)] 72))))
  have X5 := Lib.hid (al (x := .cells #[.int .i64 0, .int .i64 0, .slice none 0 0, .int .i64 0] 72) (nwk (w := w.alloc (.cells #[.int .i64 (K : Int), .int .i64 B, .slice sa A.length cap, .int .i64 (G : Int)] 72)) (o := .cells #[.int .u8 kind, .int .u8 c, .int .i64 N, bs] 57) (k := w.heap.size + 1) (by simp)))
  have X6 := Lib.hid (nwk (w := (w.alloc (.cells #[.int .i64 (K : Int), .int .i64 B, .slice sa A.length cap, .int .i64 (G : Int)] 72)).alloc (.cells #[.int .u8 kind, .int .u8 c, .int .i64 N, bs] 57)) (o := .cells #[.int .i64 0, .int .i64 0, .slice none 0 0, .int .i64 0] 72) (k := w.heap.size + 1 + 1) (by simp))
  have B0 := Lib.hid (balloc (balloc (balloc (Below.refl _ w) (.cells #[.int .i64 (K : Int), .int .i64 B, .slice sa A.length cap, .int .i64 (G : Int)] 72)) (.cells #[.int .u8 kind, .int .u8 c, .int .i64 N, bs] 57)) (.cells #[.int .i64 0, .int .i64 0, .slice none 0 0, .int .i64 0] 72))
  have hk' : kind.tmod 8 = 3 := by rw [Int.tmod_eq_emod_of_nonneg hk0]; exact hk
  have hGl := s.hG
  have hb0 := s.b0
  have hb1 := s.b1
  have hsz := s.buf.size_le
  have hdl : (A.drop G).length = A.length - G := List.length_drop
  have OWN := Lib.hid (fun g h => (s.row.own_lt (g := g) h).2)
  clear s
  go_enter Try.func35, Try.ntmps35
  go_wp2_with fail
  refine (from_val (S := (K : Int)) (v := .slice sa A.length cap) (G := G) hb0 hb1 (by omega) _).mono ?_
  rintro e w1 ⟨rfl, hb⟩
  have S1 := Lib.hid ((S0.out.next (w' := _) (balloc (balloc (balloc (Below.refl _ w) (.cells #[.int .i64 (K : Int), .int .i64 B, .slice sa A.length cap, .int .i64 (G : Int)] 72)) (.cells #[.int .u8 kind, .int .u8 c, .int .i64 N, bs] 57)) (.cells #[.int .i64 0, .int .i64 0, .slice none 0 0, .int .i64 0] 72))).next hb)
  have Y4 := Lib.hid (carry hb X4.out); have Y5 := Lib.hid (carry hb X5.out); have Y6 := Lib.hid (carry hb X6.out)
  have W1 := Lib.hid (bnext B0.out hb)
  clear hb X4 X5 X6 B0
  obtain ⟨m0, m1, m2, m3⟩ := cell_4 Y4.out
  obtain ⟨n0, n1, n2, n3⟩ := cell_4 Y5.out
  have hw1 := W1.out.size
  have HDL := Lib.hid hdl
  have HSZ := Lib.hid hsz
  rw [hdl] at hsz
  clear hdl
  dsimp only
  have HF := Lib.hid hf
  clear hf
  go_wp2_with fail
  refine (bput S1.out.buf (by rw [HDL.out]; have := HF.out; omega) (by rw [HDL.out]; omega)).mono ?_
  rintro e w2 ⟨rfl, hbf, hr⟩
  have BF2 := Lib.hid hbf
  clear hbf
  have Z4 := Lib.hid (Rg.keep hr (.inr (by omega)) Y4.out)
  have Z5 := Lib.hid (Rg.keep hr (.inr (by omega)) Y5.out)
  have Z6 := Lib.hid (Rg.keep hr (.inr (by omega)) Y6.out)
  have RO2 := Lib.hid (S1.out.row.rgb S1.out.apart hr)
  have RG2 := Lib.hid ((Rg.below W1.out (Nat.le_of_lt hbl)).trans hr)
  have hw2 := RG2.out.high.size
  clear hr
  clear m0 m1 m2 m3 n0 n1 n2 n3
  obtain ⟨m0, m1, m2, m3⟩ := cell_4 Z4.out
  obtain ⟨n0, n1, n2, n3⟩ := cell_4 Z5.out
  obtain ⟨d0, d1, d2, d3⟩ := cell_4 Z6.out
  obtain ⟨e0, e1, e2, e3⟩ := free_4 Z6.out
  have l6 := lt_of_block Z6.out
  dsimp only
  go_wp2_with fail
  refine (rput_ok (S := (K : Int)) (B := B) (c := c) hcap hGl (by omega) hb0 hb1 (by have := HF.out; omega) hl _ RO2.out.reads).mono ?_
  rintro e w3 ⟨v', rfl, hrow, hb⟩
  have RO3 := Lib.hid hrow
  obtain ⟨sb, cb, hv', hcb⟩ := RO3.out.le
  rw [List.length_append, List.length_singleton] at hv'
  subst hv'
  clear hrow
  have BF3 := Lib.hid (BF2.out.next hb)
  have RG3 := Lib.hid (RG2.out.next hb (Nat.le_of_lt hbl))
  have V4 := Lib.hid (carry hb Z4.out)
  have V5 := Lib.hid (carry hb Z5.out)
  have V6 := Lib.hid (carry hb Z6.out)
  have hw3 := hb.size
  clear hb d0 d1 d2 d3 e0 e1 e2 e3
  clear m0 m1 m2 m3 n0 n1 n2 n3
  obtain ⟨m0, m1, m2, m3⟩ := cell_4 V4.out
  obtain ⟨n0, n1, n2, n3⟩ := cell_4 V5.out
  obtain ⟨d0, d1, d2, d3⟩ := cell_4 V6.out
  obtain ⟨e0, e1, e2, e3⟩ := free_4 V6.out
  have l6 := lt_of_block V6.out
  dsimp only
  go_wp2_with fail
  have WF := Lib.hid (Below.refl w.heap.size w3)
  refine bodyPost_ret (v := .tuple #[rv K B (.slice sb (A.length + 1) cb) G, .bool true]) (by simp [results, Try.results35, go_sem, d0, d1, d2, d3, l6]) rfl ?_
  refine ⟨_, A ++ [c], G, rfl, ⟨?_, ?_, ?_, by rw [List.length_append]; omega, u8_bytes S1.out.byt hc0 hc1, hb0, hb1⟩, by rw [List.length_append]; exact Nat.le_refl _, ?_⟩
  · rw [List.drop_append_of_le_length hGl]
    refine BF3.out.under (n := w.heap.size) ?_ hbl
    (repeat' (first | with_reducible exact WF.out | with_reducible refine bset ?_ ?_ _ | with_reducible refine ballo ?_ ?_ _)); all_goals (first | omega | (simp; omega))
  · refine Row.low (B := w2.heap.size) ?_ (Nat.zero_le _)
    exact ((((RO3.out.set (by omega)).set (by omega)).set (by omega)).set (by omega)).next (balloc (Below.refl _ _) _)
  · intro g h
    have := (RO3.out.own_lt h).1
    omega
  · (repeat' (first | with_reducible exact RG3.out | with_reducible refine Rg.setNew ?_ ?_ ?_ _ | with_reducible refine Rg.next ?_ (balloc (Below.refl _ _) _) ?_)); all_goals omega
end Go.Proofs.Ytogdhmbdackeeaa
