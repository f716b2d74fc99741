import Derived.Test.YtogdhmbdackeeaaTc
import Derived.Deep.RegionHeld3
namespace Go.Proofs.Ytogdhmbdackeeaa
open Go.RowKit
set_option linter.unusedVariables false

set_option maxRecDepth 100000 in
set_option maxHeartbeats 4000000 in
theorem do_find_bad {w : World} {b K G : Nat} {B kind c N : Int} {v bs : Value} {A : List Int} (s : DS w b K B v A G) (hA : A.length ≤ 80000) (hk0 : 0 ≤ kind) (hk1 : kind ≤ 255) (hN : N < 0 ∨ ((A.length - G : Nat) : Int) < N) {p : List Int} (hbs : Reads w bs p) (hbl2 : ∀ n c, bs = .slice none n c → bs = .slice none 0 0 ∧ p = []) (hp : p.length ≤ 1000) (hP : Bytes p) (hk : kind % 8 = 6) :
    Calls Try.prog 35 #[at0 b, rv K B v G, actv kind c N bs] w (DoRes b K B A.length w) := by
  obtain ⟨sa, cap, rfl, hcap⟩ := s.row.le
  obtain ⟨pa, pc, rfl, hpcell⟩ := hbs
  have hbs : Reads w (.slice pa p.length pc) p := ⟨pa, pc, rfl, hpcell⟩
  clear hpcell
  have S0 := Lib.hid s
  have hbl : b < w.heap.size := s.buf.lt
  have X4 := Lib.hid (al (x := .cells #[.int .i64 0, .int .i64 0, .slice none 0 0, .int .i64 0] 72) (al (x := .cells #[.int .u8 kind, .int .u8 c, .int .i64 N, .slice pa p.length pc] 57) (nw (w := w) (o := .cells #[.int .i64 (K : Int), .int .i64 B, .slice sa A.length cap, .int .i64 (G : Int)] 72))))
  have X5 := Lib.hid (al (x := .cells #[.int .i64 0, .int .i64 0, .slice none 0 0, .int .i64 0] 72) (nwk (w := w.alloc (.cells #[.int .i64 (K : Int), .int .i64 B, .slice sa A.length cap, .int .i64 (G : Int)] 72)) (o := .cells #[.int .u8 kind, .int .u8 c, .int .i64 N, .slice pa p.length pc] 57) (k := w.heap.size + 1) (by simp)))
  have X6 := Lib.hid (nwk (w := (w.alloc (.cells #[.int .i64 (K : Int), .int .i64 B, .slice sa A.length cap, .int .i64 (G : Int)] 72)).alloc (.cells #[.int .u8 kind, .int .u8 c, .int .i64 N, .slice pa p.length pc] 57)) (o := .cells #[.int .i64 0, .int .i64 0, .slice none 0 0, .int .i64 0] 72) (k := w.heap.size + 1 + 1) (by simp))
  have B0 := Lib.hid (balloc (balloc (balloc (Below.refl _ w) (.cells #[.int .i64 (K : Int), .int .i64 B, .slice sa A.length cap, .int .i64 (G : Int)] 72)) (.cells #[.int .u8 kind, .int .u8 c, .int .i64 N, .slice pa p.length pc] 57)) (.cells #[.int .i64 0, .int .i64 0, .slice none 0 0, .int .i64 0] 72))
  have hk' : kind.tmod 8 = 6 := by rw [Int.tmod_eq_emod_of_nonneg hk0]; exact hk
  have hGl := s.hG
  have hb0 := s.b0
  have hb1 := s.b1
  have hsz := s.buf.size_le
  have hdl : (A.drop G).length = A.length - G := List.length_drop
  have OWN := Lib.hid (fun g h => (s.row.own_lt (g := g) h).2)
  have RP := Lib.hid hbs
  have HP := Lib.hid hP
  have HN := Lib.hid hbl2
  clear s hbs hP hbl2
  go_enter Try.func35, Try.ntmps35
  go_wp2_with fail
  refine (from_val (S := (K : Int)) (v := .slice sa A.length cap) (G := G) hb0 hb1 (by omega) _).mono ?_
  rintro e w1 ⟨rfl, hb⟩
  have S1 := Lib.hid ((S0.out.next (w' := _) (balloc (balloc (balloc (Below.refl _ w) (.cells #[.int .i64 (K : Int), .int .i64 B, .slice sa A.length cap, .int .i64 (G : Int)] 72)) (.cells #[.int .u8 kind, .int .u8 c, .int .i64 N, .slice pa p.length pc] 57)) (.cells #[.int .i64 0, .int .i64 0, .slice none 0 0, .int .i64 0] 72))).next hb)
  have Y4 := Lib.hid (carry hb X4.out); have Y5 := Lib.hid (carry hb X5.out); have Y6 := Lib.hid (carry hb X6.out)
  have W1 := Lib.hid (bnext B0.out hb)
  clear hb X4 X5 X6 B0
  obtain ⟨m0, m1, m2, m3⟩ := cell_4 Y4.out
  obtain ⟨n0, n1, n2, n3⟩ := cell_4 Y5.out
  have hw1 := W1.out.size
  have HDL := Lib.hid hdl
  have HSZ := Lib.hid hsz
  rw [hdl] at hsz
  clear hdl
  dsimp only
  have RP1 := Lib.hid (RP.out.next W1.out)
  go_wp2_with fail
  refine (clone_is RP1.out hp HN.out).mono ?_
  rintro e w2 ⟨pv, rfl, hrow, hb⟩
  have hr : Rg b (b + 1) w1 w2 := Rg.below hb (by omega)
  have HV2 := Lib.hid hrow
  have Z4 := Lib.hid (Rg.keep hr (.inr (by omega)) Y4.out)
  have Z5 := Lib.hid (Rg.keep hr (.inr (by omega)) Y5.out)
  have Z6 := Lib.hid (Rg.keep hr (.inr (by omega)) Y6.out)
  have RO2 := Lib.hid (S1.out.row.rgb S1.out.apart hr)
  have RG2 := Lib.hid ((Rg.below W1.out (Nat.le_of_lt hbl)).trans hr)
  have BF2 := Lib.hid (S1.out.buf.next hb)
  have RP2 := Lib.hid (RP1.out.next hb)
  have hw2 := RG2.out.high.size
  have hw12 := hr.high.size
  clear hr hb hrow m0 m1 m2 m3 n0 n1 n2 n3
  dsimp only
  go_upto_region 26 with fail
  have hb := (Below.refl w2.heap.size w2).drew
  have YD4 := Lib.hid (carry hb Z4.out)
  have YD5 := Lib.hid (carry hb Z5.out)
  have YD6 := Lib.hid (carry hb Z6.out)
  have BFD := Lib.hid (BF2.out.next hb)
  have ROD := Lib.hid (RO2.out.next hb)
  have RGD := Lib.hid (RG2.out.next hb (Nat.le_of_lt hbl))
  have RPD := Lib.hid (RP2.out.next hb)
  have HVD := Lib.hid (HV2.out.next hb)
  have WD := Lib.hid (Below.refl w2.drew.heap.size w2.drew)
  obtain ⟨m0, m1, m2, m3⟩ := cell_4 YD4.out
  obtain ⟨n0, n1, n2, n3⟩ := cell_4 YD5.out
  obtain ⟨pa0, pc0, rfl, hpc0⟩ := HV2.out.le
  go_region_held3 (fun w' => w'.cell? ⟨w.heap.size, 0, none⟩ = some (.int .i64 (K : Int)) ∧ w'.cell? ⟨w.heap.size, 1, none⟩ = some (.int .i64 B) ∧ w'.cell? ⟨w.heap.size, 2, none⟩ = some (.slice sa A.length cap) ∧ w'.cell? ⟨w.heap.size, 3, none⟩ = some (.int .i64 (G : Int)) ∧ w'.cell? ⟨w.heap.size + 1, 2, none⟩ = some (.int .i64 N) ∧ w'.cell? ⟨w.heap.size + 1, 3, none⟩ = some (.slice pa p.length pc))
    (first | exact ⟨m0, m1, m2, m3, n2, n3⟩ | exact ⟨m4, m5, m6, m7, n4, n5⟩ | exact ⟨m8, m9, ma, mb, n6, n7⟩ | exact ⟨(cell_far4 (by omega)).trans m8, (cell_far4 (by omega)).trans m9, (cell_far4 (by omega)).trans ma, (cell_far4 (by omega)).trans mb, (cell_far4 (by omega)).trans n6, (cell_far4 (by omega)).trans n7⟩)
    (first
      | (go_at_call 23; refine (find_bad (sa := pa0) (c := pc0) BFD.out (by rw [HDL.out]; exact hN)).mono ?_; rintro e w3 ⟨rfl, hb⟩; have Y34 := Lib.hid (carry hb YD4.out); have Y35 := Lib.hid (carry hb YD5.out); have Y36 := Lib.hid (carry hb YD6.out); have BF3 := Lib.hid (BFD.out.next hb); have RO3 := Lib.hid (ROD.out.next hb); have RP3 := Lib.hid (RPD.out.next hb); have HV3 := Lib.hid (HVD.out.next hb); have RG3 := Lib.hid (RGD.out.next hb (Nat.le_of_lt hbl)); (obtain ⟨m4, m5, m6, m7⟩ := cell_4 Y34.out); (obtain ⟨_, _, n4, n5⟩ := cell_4 Y35.out); clear hb)
      | (go_at_call 43; refine (rfind_bad (S := (K : Int)) (B := B) hcap hGl hN _).mono ?_; rintro e w4 ⟨rfl, hb⟩; have Y44 := Lib.hid (carry hb Y34.out); have Y45 := Lib.hid (carry hb Y35.out); have Y46 := Lib.hid (carry hb Y36.out); have BF4 := Lib.hid (BF3.out.next hb); have RO4 := Lib.hid (RO3.out.next hb); have RP4 := Lib.hid (RP3.out.next hb); have HV4 := Lib.hid (HV3.out.next hb); have RG4 := Lib.hid (RG3.out.next hb (Nat.le_of_lt hbl)); (obtain ⟨m8, m9, ma, mb⟩ := cell_4 Y44.out); (obtain ⟨_, _, n6, n7⟩ := cell_4 Y45.out); (obtain ⟨d0, d1, d2, d3⟩ := cell_4 Y46.out); (obtain ⟨e0, e1, e2, e3⟩ := free_4 Y46.out); have l6 := lt_of_block Y46.out; clear hb)
      | (go_at_call 19; refine (equal_true HV4.out.reads RP4.out HP.out).mono ?_; rintro e w5 ⟨rfl, rfl⟩))
  have WF := Lib.hid (Below.refl w.heap.size w4)
  go_wp2_with fail
  refine bodyPost_ret (v := .tuple #[rv K B (.slice sa A.length cap) G, .bool true]) (by simp [results, Try.results35, go_sem, d0, d1, d2, d3]) rfl ?_
  refine ⟨_, A, G, rfl, ⟨?_, ?_, S1.out.apart, hGl, S1.out.byt, hb0, hb1⟩, by omega, ?_⟩
  · refine Buf.under (n := w.heap.size) BF4.out ?_ hbl
    (repeat' (first | with_reducible exact WF.out | with_reducible refine Below.drew ?_ | with_reducible refine bset ?_ ?_ _ | with_reducible refine ballo ?_ ?_ _)); all_goals (first | omega | (simp; omega))
  · refine Row.lowN (n := w.heap.size) RO4.out (fun g h => OWN.out g h) ?_
    (repeat' (first | with_reducible exact WF.out | with_reducible refine Below.drew ?_ | with_reducible refine bset ?_ ?_ _ | with_reducible refine ballo ?_ ?_ _)); all_goals (first | omega | (simp; omega))
  · (repeat' (first | with_reducible exact RG4.out | with_reducible refine Rg.drew ?_ | with_reducible refine Rg.setNew ?_ ?_ ?_ _ | with_reducible refine Rg.next ?_ (balloc (Below.refl _ _) _) ?_)); all_goals omega

set_option maxRecDepth 100000 in
set_option maxHeartbeats 4000000 in
theorem do_find_ok {w : World} {b K G : Nat} {B kind c N : Int} {v bs : Value} {A : List Int} (s : DS w b K B v A G) (hA : A.length ≤ 80000) (hk0 : 0 ≤ kind) (hk1 : kind ≤ 255) {m : Nat} (hN : N = (m : Int)) (hm : m ≤ A.length - G) {p : List Int} (hbs : Reads w bs p) (hbl2 : ∀ n c, bs = .slice none n c → bs = .slice none 0 0 ∧ p = []) (hp : p.length ≤ 1000) (hP : Bytes p) (hk : kind % 8 = 6) :
    Calls Try.prog 35 #[at0 b, rv K B v G, actv kind c N bs] w (DoRes b K B A.length w) := by
  subst hN
  obtain ⟨sa, cap, rfl, hcap⟩ := s.row.le
  obtain ⟨pa, pc, rfl, hpcell⟩ := hbs
  have hbs : Reads w (.slice pa p.length pc) p := ⟨pa, pc, rfl, hpcell⟩
  clear hpcell
  have S0 := Lib.hid s
  have hbl : b < w.heap.size := s.buf.lt
  have X4 := Lib.hid (al (x := .cells #[.int .i64 0, .int .i64 0, .slice none 0 0, .int .i64 0] 72) (al (x := .cells #[.int .u8 kind, .int .u8 c, .int .i64 (m : Int), .slice pa p.length pc] 57) (nw (w := w) (o := .cells #[.int .i64 (K : Int), .int .i64 B, .slice sa A.length cap, .int .i64 (G : Int)] 72))))
  have X5 := Lib.hid (al (x := .cells #[.int .i64 0, .int .i64 0, .slice none 0 0, .int .i64 0] 72) (nwk (w := w.alloc (.cells #[.int .i64 (K : Int), .int .i64 B, .slice sa A.length cap, .int .i64 (G : Int)] 72)) (o := .cells #[.int .u8 kind, .int .u8 c, .int .i64 (m : Int), .slice pa p.length pc] 57) (k := w.heap.size + 1) (by simp)))
  have X6 := Lib.hid (nwk (w := (w.alloc (.cells #[.int .i64 (K : Int), .int .i64 B, .slice sa A.length cap, .int .i64 (G : Int)] 72)).alloc (.cells #[.int .u8 kind, .int .u8 c, .int .i64 (m : Int), .slice pa p.length pc] 57)) (o := .cells #[.int .i64 0, .int .i64 0, .slice none 0 0, .int .i64 0] 72) (k := w.heap.size + 1 + 1) (by simp))
  have B0 := Lib.hid (balloc (balloc (balloc (Below.refl _ w) (.cells #[.int .i64 (K : Int), .int .i64 B, .slice sa A.length cap, .int .i64 (G : Int)] 72)) (.cells #[.int .u8 kind, .int .u8 c, .int .i64 (m : Int), .slice pa p.length pc] 57)) (.cells #[.int .i64 0, .int .i64 0, .slice none 0 0, .int .i64 0] 72))
  have hk' : kind.tmod 8 = 6 := by rw [Int.tmod_eq_emod_of_nonneg hk0]; exact hk
  have hGl := s.hG
  have hb0 := s.b0
  have hb1 := s.b1
  have hsz := s.buf.size_le
  have hdl : (A.drop G).length = A.length - G := List.length_drop
  have OWN := Lib.hid (fun g h => (s.row.own_lt (g := g) h).2)
  have RP := Lib.hid hbs
  have HP := Lib.hid hP
  have HN := Lib.hid hbl2
  clear s hbs hP hbl2
  go_enter Try.func35, Try.ntmps35
  go_wp2_with fail
  refine (from_val (S := (K : Int)) (v := .slice sa A.length cap) (G := G) hb0 hb1 (by omega) _).mono ?_
  rintro e w1 ⟨rfl, hb⟩
  have S1 := Lib.hid ((S0.out.next (w' := _) (balloc (balloc (balloc (Below.refl _ w) (.cells #[.int .i64 (K : Int), .int .i64 B, .slice sa A.length cap, .int .i64 (G : Int)] 72)) (.cells #[.int .u8 kind, .int .u8 c, .int .i64 (m : Int), .slice pa p.length pc] 57)) (.cells #[.int .i64 0, .int .i64 0, .slice none 0 0, .int .i64 0] 72))).next hb)
  have Y4 := Lib.hid (carry hb X4.out); have Y5 := Lib.hid (carry hb X5.out); have Y6 := Lib.hid (carry hb X6.out)
  have W1 := Lib.hid (bnext B0.out hb)
  clear hb X4 X5 X6 B0
  obtain ⟨m0, m1, m2, m3⟩ := cell_4 Y4.out
  obtain ⟨n0, n1, n2, n3⟩ := cell_4 Y5.out
  have hw1 := W1.out.size
  have HDL := Lib.hid hdl
  have HSZ := Lib.hid hsz
  rw [hdl] at hsz
  clear hdl
  dsimp only
  have RP1 := Lib.hid (RP.out.next W1.out)
  go_wp2_with fail
  refine (clone_is RP1.out hp HN.out).mono ?_
  rintro e w2 ⟨pv, rfl, hrow, hb⟩
  have hr : Rg b (b + 1) w1 w2 := Rg.below hb (by omega)
  have HV2 := Lib.hid hrow
  have Z4 := Lib.hid (Rg.keep hr (.inr (by omega)) Y4.out)
  have Z5 := Lib.hid (Rg.keep hr (.inr (by omega)) Y5.out)
  have Z6 := Lib.hid (Rg.keep hr (.inr (by omega)) Y6.out)
  have RO2 := Lib.hid (S1.out.row.rgb S1.out.apart hr)
  have RG2 := Lib.hid ((Rg.below W1.out (Nat.le_of_lt hbl)).trans hr)
  have BF2 := Lib.hid (S1.out.buf.next hb)
  have RP2 := Lib.hid (RP1.out.next hb)
  have hw2 := RG2.out.high.size
  have hw12 := hr.high.size
  clear hr hb hrow m0 m1 m2 m3 n0 n1 n2 n3
  dsimp only
  go_upto_region 26 with fail
  have hb := (Below.refl w2.heap.size w2).drew
  have YD4 := Lib.hid (carry hb Z4.out)
  have YD5 := Lib.hid (carry hb Z5.out)
  have YD6 := Lib.hid (carry hb Z6.out)
  have BFD := Lib.hid (BF2.out.next hb)
  have ROD := Lib.hid (RO2.out.next hb)
  have RGD := Lib.hid (RG2.out.next hb (Nat.le_of_lt hbl))
  have RPD := Lib.hid (RP2.out.next hb)
  have HVD := Lib.hid (HV2.out.next hb)
  have WD := Lib.hid (Below.refl w2.drew.heap.size w2.drew)
  obtain ⟨m0, m1, m2, m3⟩ := cell_4 YD4.out
  obtain ⟨n0, n1, n2, n3⟩ := cell_4 YD5.out
  go_region_held3 (fun w' => w'.cell? ⟨w.heap.size, 0, none⟩ = some (.int .i64 (K : Int)) ∧ w'.cell? ⟨w.heap.size, 1, none⟩ = some (.int .i64 B) ∧ w'.cell? ⟨w.heap.size, 2, none⟩ = some (.slice sa A.length cap) ∧ w'.cell? ⟨w.heap.size, 3, none⟩ = some (.int .i64 (G : Int)) ∧ w'.cell? ⟨w.heap.size + 1, 2, none⟩ = some (.int .i64 (m : Int)) ∧ w'.cell? ⟨w.heap.size + 1, 3, none⟩ = some (.slice pa p.length pc))
    (first | exact ⟨m0, m1, m2, m3, n2, n3⟩ | exact ⟨m4, m5, m6, m7, n4, n5⟩ | exact ⟨m8, m9, ma, mb, n6, n7⟩ | exact ⟨(cell_far4 (by omega)).trans m8, (cell_far4 (by omega)).trans m9, (cell_far4 (by omega)).trans ma, (cell_far4 (by omega)).trans mb, (cell_far4 (by omega)).trans n6, (cell_far4 (by omega)).trans n7⟩)
    (first
      | (go_at_call 23; refine (bfind (fr := m) BFD.out HVD.out.reads hp (by rw [HDL.out]; exact hm)).mono ?_; rintro e w3 ⟨u, rfl, hu, hb⟩; have HU := Lib.hid hu; clear hu; have Y34 := Lib.hid (carry hb YD4.out); have Y35 := Lib.hid (carry hb YD5.out); have Y36 := Lib.hid (carry hb YD6.out); have BF3 := Lib.hid (BFD.out.next hb); have RO3 := Lib.hid (ROD.out.next hb); have RP3 := Lib.hid (RPD.out.next hb); have HV3 := Lib.hid (HVD.out.next hb); have RG3 := Lib.hid (RGD.out.next hb (Nat.le_of_lt hbl)); (obtain ⟨m4, m5, m6, m7⟩ := cell_4 Y34.out); (obtain ⟨_, _, n4, n5⟩ := cell_4 Y35.out); clear hb)
      | (go_at_call 43; refine (rfind_is (S := (K : Int)) (B := B) (fr := m) hcap hGl (by omega) hp hm _ RO3.out.reads RP3.out S1.out.byt HP.out).mono ?_; rintro e w4 ⟨u2, rfl, hu, hb⟩; (obtain rfl := found_unique HU.out hu); clear hu; have Y44 := Lib.hid (carry hb Y34.out); have Y45 := Lib.hid (carry hb Y35.out); have Y46 := Lib.hid (carry hb Y36.out); have BF4 := Lib.hid (BF3.out.next hb); have RO4 := Lib.hid (RO3.out.next hb); have RP4 := Lib.hid (RP3.out.next hb); have HV4 := Lib.hid (HV3.out.next hb); have RG4 := Lib.hid (RG3.out.next hb (Nat.le_of_lt hbl)); (obtain ⟨m8, m9, ma, mb⟩ := cell_4 Y44.out); (obtain ⟨_, _, n6, n7⟩ := cell_4 Y45.out); (obtain ⟨d0, d1, d2, d3⟩ := cell_4 Y46.out); (obtain ⟨e0, e1, e2, e3⟩ := free_4 Y46.out); have l6 := lt_of_block Y46.out; clear hb)
      | (go_at_call 19; refine (equal_true HV4.out.reads RP4.out HP.out).mono ?_; rintro e w5 ⟨rfl, rfl⟩))
  have WF := Lib.hid (Below.refl w.heap.size w4)
  go_wp2_with fail
  refine bodyPost_ret (v := .tuple #[rv K B (.slice sa A.length cap) G, .bool true]) (by simp [results, Try.results35, go_sem, d0, d1, d2, d3]) rfl ?_
  refine ⟨_, A, G, rfl, ⟨?_, ?_, S1.out.apart, hGl, S1.out.byt, hb0, hb1⟩, by omega, ?_⟩
  · refine Buf.under (n := w.heap.size) BF4.out ?_ hbl
    (repeat' (first | with_reducible exact WF.out | with_reducible refine Below.drew ?_ | with_reducible refine bset ?_ ?_ _ | with_reducible refine ballo ?_ ?_ _)); all_goals (first | omega | (simp; omega))
  · refine Row.lowN (n := w.heap.size) RO4.out (fun g h => OWN.out g h) ?_
    (repeat' (first | with_reducible exact WF.out | with_reducible refine Below.drew ?_ | with_reducible refine bset ?_ ?_ _ | with_reducible refine ballo ?_ ?_ _)); all_goals (first | omega | (simp; omega))
  · (repeat' (first | with_reducible exact RG4.out | with_reducible refine Rg.drew ?_ | with_reducible refine Rg.setNew ?_ ?_ ?_ _ | with_reducible refine Rg.next ?_ (balloc (Below.refl _ _) _) ?_)); all_goals omega
end Go.Proofs.Ytogdhmbdackeeaa
