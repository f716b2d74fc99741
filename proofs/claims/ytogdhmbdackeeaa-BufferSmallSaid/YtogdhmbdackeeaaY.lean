import Derived.Test.YtogdhmbdackeeaaX
namespace Go.Proofs.Ytogdhmbdackeeaa
open Go.RowKit
set_option linter.unusedVariables false

abbrev rz : Array Value := #[.int .i64 0, .int .i64 0, .slice none 0 0, .int .i64 0]

set_option maxRecDepth 20000 in
theorem rput_full {S B c : Int} {sa : Option Addr} {n cap G : Nat} (hn : n ≤ cap) (hG : G ≤ n) (h : ((n - G : Nat) : Int) = S) (w : World) :
    Calls Try.prog 40 #[rv S B (.slice sa n cap) G, .int .u8 c] w fun e w' => e = .returned (.tuple #[rv S B (.slice sa n cap) G, .int .i64 4]) ∧ Below w.heap.size w w' := by
  have H := Lib.hid h
  clear h
  have hx := Lib.hid (al (x := .cells #[.int .i64 0, .int .i64 0, .slice none 0 0, .int .i64 0] 72) (nw (w := w) (o := .cells #[.int .i64 S, .int .i64 B, .slice sa n cap, .int .i64 (G : Int)] 72)))
  have hy := Lib.hid (nwk (w := w.alloc (.cells #[.int .i64 S, .int .i64 B, .slice sa n cap, .int .i64 (G : Int)] 72)) (o := .cells #[.int .i64 0, .int .i64 0, .slice none 0 0, .int .i64 0] 72) (k := w.heap.size + 1) (by simp))
  go_enter Try.func40, Try.ntmps40
  go_wp2_with fail
  refine (ref_full (B := B) hn hG H.out _).mono ?_
  rintro e w1 ⟨rfl, hb⟩
  have HX1 := Lib.hid (carry hb hx.out); have HY1 := Lib.hid (carry hb hy.out)
  have W1 := Lib.hid (bnext (balloc (balloc (Below.refl _ w) _) _) hb)
  obtain ⟨c0, c1, c2, c3⟩ := cell_4 HX1.out
  obtain ⟨d0, d1, d2, d3⟩ := cell_4 HY1.out
  obtain ⟨e0, e1, e2, e3⟩ := free_4 HY1.out
  obtain ⟨g0, g1, g2, g3⟩ := free_4 HX1.out
  have l0 := lt_of_block HX1.out
  have l1 := lt_of_block HY1.out
  clear hb
  dsimp only
  go_wp2_with fail
  refine bodyPost_ret (v := .tuple #[rv S B (.slice sa n cap) G, .int .i64 4]) (by simp [results, Try.results40, go_sem, d0, d1, d2, d3]) rfl ⟨rfl, ?_⟩
  (repeat' (first | with_reducible exact W1.out | with_reducible refine bset ?_ ?_ _ | with_reducible refine balloc ?_ _)); all_goals omega

set_option maxRecDepth 20000 in
theorem rput_long {S B c : Int} {sa : Option Addr} {n cap G : Nat} (hn : n ≤ cap) (hG : G ≤ n) (hn2 : n ≤ 90000) (hB : 0 ≤ B) (hB2 : B ≤ 281474976710656) (h : ((n - G : Nat) : Int) ≠ S) (hl : 281474976710656 ≤ B + (n : Int)) (w : World) :
    Calls Try.prog 40 #[rv S B (.slice sa n cap) G, .int .u8 c] w fun e w' => e = .returned (.tuple #[rv S B (.slice sa n cap) G, .int .i64 3]) ∧ Below w.heap.size w w' := by
  have H := Lib.hid h
  clear h
  have hx := Lib.hid (al (x := .cells #[.int .i64 0, .int .i64 0, .slice none 0 0, .int .i64 0] 72) (nw (w := w) (o := .cells #[.int .i64 S, .int .i64 B, .slice sa n cap, .int .i64 (G : Int)] 72)))
  have hy := Lib.hid (nwk (w := w.alloc (.cells #[.int .i64 S, .int .i64 B, .slice sa n cap, .int .i64 (G : Int)] 72)) (o := .cells #[.int .i64 0, .int .i64 0, .slice none 0 0, .int .i64 0] 72) (k := w.heap.size + 1) (by simp))
  go_enter Try.func40, Try.ntmps40
  go_wp2_with fail
  refine (ref_notfull (B := B) hn hG H.out _).mono ?_
  rintro e w1 ⟨rfl, hb⟩
  have HX1 := Lib.hid (carry hb hx.out); have HY1 := Lib.hid (carry hb hy.out)
  have W1 := Lib.hid (bnext (balloc (balloc (Below.refl _ w) _) _) hb)
  obtain ⟨c0, c1, c2, c3⟩ := cell_4 HX1.out
  obtain ⟨d0, d1, d2, d3⟩ := cell_4 HY1.out
  obtain ⟨e0, e1, e2, e3⟩ := free_4 HY1.out
  obtain ⟨g0, g1, g2, g3⟩ := free_4 HX1.out
  have l0 := lt_of_block HX1.out
  have l1 := lt_of_block HY1.out
  clear hb
  dsimp only
  go_wp2_with fail
  refine bodyPost_ret (v := .tuple #[rv S B (.slice sa n cap) G, .int .i64 3]) (by simp [results, Try.results40, go_sem, d0, d1, d2, d3]) rfl ⟨rfl, ?_⟩
  (repeat' (first | with_reducible exact W1.out | with_reducible refine bset ?_ ?_ _ | with_reducible refine balloc ?_ _)); all_goals omega

set_option maxRecDepth 20000 in
set_option maxHeartbeats 1000000 in
theorem rput_ok {S B c : Int} {sa : Option Addr} {A : List Int} {cap G : Nat} (hn : A.length ≤ cap) (hG : G ≤ A.length) (hn2 : A.length ≤ 90000) (hB : 0 ≤ B) (hB2 : B ≤ 281474976710656) (h : ((A.length - G : Nat) : Int) ≠ S) (hl : B + (A.length : Int) < 281474976710656) (w : World) (hr : Reads w (.slice sa A.length cap) A) :
    Calls Try.prog 40 #[rv S B (.slice sa A.length cap) G, .int .u8 c] w fun e w' => ∃ v', e = .returned (.tuple #[rv S B v' G, .int .i64 0]) ∧ Row w' w.heap.size v' (A ++ [c]) ∧ Below w.heap.size w w' := by
  have H := Lib.hid h
  have HR := Lib.hid hr
  clear h hr
  have hx := Lib.hid (al (x := .cells #[.int .i64 0, .int .i64 0, .slice none 0 0, .int .i64 0] 72) (nw (w := w) (o := .cells #[.int .i64 S, .int .i64 B, .slice sa A.length cap, .int .i64 (G : Int)] 72)))
  have hy := Lib.hid (nwk (w := w.alloc (.cells #[.int .i64 S, .int .i64 B, .slice sa A.length cap, .int .i64 (G : Int)] 72)) (o := .cells #[.int .i64 0, .int .i64 0, .slice none 0 0, .int .i64 0] 72) (k := w.heap.size + 1) (by simp))
  go_enter Try.func40, Try.ntmps40
  go_wp2_with fail
  refine (ref_notfull (B := B) hn hG H.out _).mono ?_
  rintro e w1 ⟨rfl, hb⟩
  have HX1 := Lib.hid (carry hb hx.out); have HY1 := Lib.hid (carry hb hy.out)
  have W1 := Lib.hid (bnext (balloc (balloc (Below.refl _ w) _) _) hb)
  obtain ⟨c0, c1, c2, c3⟩ := cell_4 HX1.out
  have l0 := lt_of_block HX1.out
  have l1 := lt_of_block HY1.out
  clear hb
  dsimp only
  have hw1 := W1.out.size
  go_wp2_with (first | (at_builtin; refine wpList_app (q := A) rfl (.tmp 17) (.tmp 19) rfl rfl rfl (show Row (w1.alloc (.cells #[] 5)) w1.heap.size (.slice (some ⟨w1.heap.size, 0, none⟩) 0 0) [] from Row.nil_new) (HR.out.next (balloc W1.out (.cells #[] 5))) (by simp; omega) (by simp) ?_; intro v1 w2 hrow2 hg2 hat2; have R2 := Lib.hid (show Row w2 w1.heap.size v1 A from hrow2); have B2 := Lib.hid (show Below w1.heap.size w1 w2 from (balloc (Below.refl _ w1) (.cells #[] 5)).trans (grow_low (show Row (w1.alloc (.cells #[] 5)) w1.heap.size (.slice (some ⟨w1.heap.size, 0, none⟩) 0 0) [] from Row.nil_new) (by simp) hg2)); clear hrow2 hg2 hat2; have hw2 := B2.out.size) | (at_builtin; refine wpList_app (q := [c]) rfl (.tmp 20) (.tmp 22) rfl rfl rfl (R2.out.next (balloc (Below.refl _ w2) (.cells #[.int .u8 c] 5))) reads_one (by simp; omega) (by simp; omega) ?_; intro v2 w3 hrow3 hg3 hat3; have R3 := Lib.hid (show Row w3 w1.heap.size v2 (A ++ [c]) from hrow3); have B3 := Lib.hid (show Below w1.heap.size w1 w3 from (B2.out.trans ((balloc (Below.refl _ w2) (.cells #[.int .u8 c] 5)).mono hw2)).trans (grow_low (R2.out.next (balloc (Below.refl _ w2) (.cells #[.int .u8 c] 5))) (by simp; omega) hg3)); clear hrow3 hg3 hat3; have HX3 := Lib.hid (B3.out.block _ l0 |>.trans HX1.out); have HY3 := Lib.hid (B3.out.block _ l1 |>.trans HY1.out); (obtain ⟨c4, c5, c6, c7⟩ := cell_4 HX3.out); (obtain ⟨d0, d1, d2, d3⟩ := cell_4 HY3.out); (obtain ⟨e0, e1, e2, e3⟩ := free_4 HY3.out); (obtain ⟨g0, g1, g2, g3⟩ := free_4 HX3.out); (obtain ⟨sb, cb, hv2, hcb⟩ := R3.out.le); rw [List.length_append, List.length_singleton] at hv2; subst hv2))
  have W3 := Lib.hid (W1.out.trans (B3.out.mono hw1))
  refine bodyPost_ret (v := .tuple #[rv S B (.slice sb (A.length + 1) cb) G, .int .i64 0]) (by simp [results, Try.results40, go_sem, d0, d1, d2, d3]) rfl ⟨_, rfl, ?_, ?_⟩
  · have hN : w.heap.size + 1 < w1.heap.size := l1
    refine Row.low (B := w1.heap.size) ?_ (by omega)
    exact ((((R3.out.set (by omega)).set (by omega)).set (by omega)).set (by omega)).set (by omega)
  · (repeat' (first | with_reducible exact W3.out | with_reducible refine bset ?_ ?_ _ | with_reducible refine balloc ?_ _)); all_goals omega

set_option maxRecDepth 20000 in
theorem rtake_bad {S B N : Int} {sa : Option Addr} {n cap G : Nat} (hn : n ≤ cap) (hG : G ≤ n) (h : N < 0 ∨ ((n - G : Nat) : Int) < N) (w : World) :
    Calls Try.prog 41 #[rv S B (.slice sa n cap) G, .int .i64 N] w fun e w' => e = .returned (.tuple #[rv S B (.slice sa n cap) G, .slice none 0 0, .int .i64 2]) ∧ Below w.heap.size w w' := by
  have hx := Lib.hid (al (x := .cells #[.int .i64 0, .int .i64 0, .slice none 0 0, .int .i64 0] 72) (nw (w := w) (o := .cells #[.int .i64 S, .int .i64 B, .slice sa n cap, .int .i64 (G : Int)] 72)))
  have hy := Lib.hid (nwk (w := w.alloc (.cells #[.int .i64 S, .int .i64 B, .slice sa n cap, .int .i64 (G : Int)] 72)) (o := .cells #[.int .i64 0, .int .i64 0, .slice none 0 0, .int .i64 0] 72) (k := w.heap.size + 1) (by simp))
  obtain ⟨c0, c1, c2, c3⟩ := cell_4 hx.out
  obtain ⟨d0, d1, d2, d3⟩ := cell_4 hy.out
  obtain ⟨e0, e1, e2, e3⟩ := free_4 hy.out
  by_cases h0 : N < 0
  · clear h
    have W1 := Lib.hid (balloc (balloc (Below.refl _ w) (.cells #[.int .i64 S, .int .i64 B, .slice sa n cap, .int .i64 (G : Int)] 72)) (.cells #[.int .i64 0, .int .i64 0, .slice none 0 0, .int .i64 0] 72))
    clear c0 c1 c2 c3 d0 d1 d2 d3 e0 e1 e2 e3
    go_enter Try.func41, Try.ntmps41
    go_wp2_with fail
    refine bodyPost_ret (v := .tuple #[rv S B (.slice sa n cap) G, .slice none 0 0, .int .i64 2]) (by simp [results, Try.results41, go_sem]) rfl ⟨rfl, ?_⟩
    (repeat' (first | with_reducible exact Below.refl _ _ | with_reducible refine bset ?_ ?_ _ | with_reducible refine balloc ?_ _)); all_goals omega
  · have h1 : ((n - G : Nat) : Int) < N := by omega
    clear h c0 c1 c2 c3 d0 d1 d2 d3 e0 e1 e2 e3
    go_enter Try.func41, Try.ntmps41
    go_wp2_with fail
    refine (held_val (S := S) (B := B) hn hG _).mono ?_
    rintro e w1 ⟨rfl, hb⟩
    unfold hv
    have HX1 := Lib.hid (carry hb hx.out); have HY1 := Lib.hid (carry hb hy.out)
    have W1 := Lib.hid (bnext (balloc (balloc (Below.refl _ w) _) _) hb)
    obtain ⟨c0, c1, c2, c3⟩ := cell_4 HX1.out
    obtain ⟨d0, d1, d2, d3⟩ := cell_4 HY1.out
    obtain ⟨e0, e1, e2, e3⟩ := free_4 HY1.out
    obtain ⟨g0, g1, g2, g3⟩ := free_4 HX1.out
    have l0 := lt_of_block HX1.out
    have l1 := lt_of_block HY1.out
    clear hb
    dsimp only
    go_wp2_with fail
    refine bodyPost_ret (v := .tuple #[rv S B (.slice sa n cap) G, .slice none 0 0, .int .i64 2]) (by simp [results, Try.results41, go_sem, d0, d1, d2, d3]) rfl ⟨rfl, ?_⟩
    (repeat' (first | with_reducible exact W1.out | with_reducible refine bset ?_ ?_ _ | with_reducible refine balloc ?_ _)); all_goals omega

set_option maxRecDepth 20000 in
theorem rtake_ok {S B : Int} {m : Nat} {sa : Option Addr} {n cap G : Nat} (hn : n ≤ cap) (hG : G ≤ n) (hn2 : n ≤ 90000) (h : m ≤ n - G) (w : World) :
    Calls Try.prog 41 #[rv S B (.slice sa n cap) G, .int .i64 m] w fun e w' => e = .returned (.tuple #[rv S B (.slice sa n cap) ((G + m : Nat) : Int), .slice (tailA sa cap G) m (cap - G), .int .i64 0]) ∧ Below w.heap.size w w' := by
  have hx := Lib.hid (al (x := .cells #[.int .i64 0, .int .i64 0, .slice none 0 0, .int .i64 0] 72) (nw (w := w) (o := .cells #[.int .i64 S, .int .i64 B, .slice sa n cap, .int .i64 (G : Int)] 72)))
  have hy := Lib.hid (nwk (w := w.alloc (.cells #[.int .i64 S, .int .i64 B, .slice sa n cap, .int .i64 (G : Int)] 72)) (o := .cells #[.int .i64 0, .int .i64 0, .slice none 0 0, .int .i64 0] 72) (k := w.heap.size + 1) (by simp))
  have h0 : ¬ ((n - G : Nat) : Int) < (m : Int) := by omega
  have hsl := fun W => slice_h W (tailA sa cap G) (n - G) (cap - G) m (h := (m : Int)) rfl (by omega)
  have hGb : (G : Int) ≤ 90000 := by omega
  have hmb : (m : Int) ≤ 90000 := by omega
  go_enter Try.func41, Try.ntmps41
  go_wp2_with fail
  refine (held_val (S := S) (B := B) hn hG _).mono ?_
  rintro e w1 ⟨rfl, hb⟩
  unfold hv
  have HX1 := Lib.hid (carry hb hx.out); have HY1 := Lib.hid (carry hb hy.out)
  have W1 := Lib.hid (bnext (balloc (balloc (Below.refl _ w) _) _) hb)
  obtain ⟨c0, c1, c2, c3⟩ := cell_4 HX1.out
  obtain ⟨d0, d1, d2, d3⟩ := cell_4 HY1.out
  obtain ⟨e0, e1, e2, e3⟩ := free_4 HY1.out
  obtain ⟨g0, g1, g2, g3⟩ := free_4 HX1.out
  have l0 := lt_of_block HX1.out
  have l1 := lt_of_block HY1.out
  clear hb
  dsimp only
  go_wp2_with fail
  refine (held_val (S := S) (B := B) hn hG _).mono ?_
  rintro e w2 ⟨rfl, hb⟩
  unfold hv
  clear c0 c1 c2 c3 d0 d1 d2 d3 e0 e1 e2 e3 g0 g1 g2 g3 l0 l1
  have HX2 := Lib.hid (carry hb HX1.out); have HY2 := Lib.hid (carry hb HY1.out)
  have W2 := Lib.hid (bnext W1.out hb)
  obtain ⟨c0, c1, c2, c3⟩ := cell_4 HX2.out
  obtain ⟨d0, d1, d2, d3⟩ := cell_4 HY2.out
  obtain ⟨e0, e1, e2, e3⟩ := free_4 HY2.out
  obtain ⟨g0, g1, g2, g3⟩ := free_4 HX2.out
  have l0 := lt_of_block HX2.out
  have l1 := lt_of_block HY2.out
  clear hb
  dsimp only
  go_wp2_with fail
  refine bodyPost_ret (v := .tuple #[rv S B (.slice sa n cap) ((G : Int) + (m : Int)), .slice (tailA sa cap G) m (cap - G), .int .i64 0]) (by simp [results, Try.results41, go_sem, d0, d1, d2, d3]) rfl ⟨by push_cast; rfl, ?_⟩
  (repeat' (first | with_reducible exact W2.out | with_reducible refine bset ?_ ?_ _ | with_reducible refine balloc ?_ _)); all_goals omega

set_option maxRecDepth 20000 in
theorem rdisc_room {S B : Int} {sa : Option Addr} {n cap G : Nat} (hn : n ≤ cap) (hG : G ≤ n) (h : ((n - G : Nat) : Int) ≠ S) (w : World) :
    Calls Try.prog 42 #[rv S B (.slice sa n cap) G] w fun e w' => e = .returned (.tuple #[rv S B (.slice sa n cap) G, .int .i64 0, .int .i64 310]) ∧ Below w.heap.size w w' := by
  have H := Lib.hid h
  clear h
  have hx := Lib.hid (al (x := .cells #[.int .i64 0, .int .i64 0, .slice none 0 0, .int .i64 0] 72) (nw (w := w) (o := .cells #[.int .i64 S, .int .i64 B, .slice sa n cap, .int .i64 (G : Int)] 72)))
  have hy := Lib.hid (nwk (w := w.alloc (.cells #[.int .i64 S, .int .i64 B, .slice sa n cap, .int .i64 (G : Int)] 72)) (o := .cells #[.int .i64 0, .int .i64 0, .slice none 0 0, .int .i64 0] 72) (k := w.heap.size + 1) (by simp))
  go_enter Try.func42, Try.ntmps42
  go_wp2_with fail
  refine (ref_notfull (B := B) hn hG H.out _).mono ?_
  rintro e w1 ⟨rfl, hb⟩
  have HX1 := Lib.hid (carry hb hx.out); have HY1 := Lib.hid (carry hb hy.out)
  have W1 := Lib.hid (bnext (balloc (balloc (Below.refl _ w) _) _) hb)
  obtain ⟨c0, c1, c2, c3⟩ := cell_4 HX1.out
  obtain ⟨d0, d1, d2, d3⟩ := cell_4 HY1.out
  obtain ⟨e0, e1, e2, e3⟩ := free_4 HY1.out
  obtain ⟨g0, g1, g2, g3⟩ := free_4 HX1.out
  have l0 := lt_of_block HX1.out
  have l1 := lt_of_block HY1.out
  clear hb
  dsimp only
  go_wp2_with fail
  refine bodyPost_ret (v := .tuple #[rv S B (.slice sa n cap) G, .int .i64 0, .int .i64 310]) (by simp [results, Try.results42, go_sem, d0, d1, d2, d3]) rfl ⟨rfl, ?_⟩
  (repeat' (first | with_reducible exact W1.out | with_reducible refine bset ?_ ?_ _ | with_reducible refine balloc ?_ _)); all_goals omega

set_option maxRecDepth 20000 in
theorem rdisc_ok {K Q : Nat} {B : Int} {sa : Option Addr} {n cap G : Nat} (hn : n ≤ cap) (hG : G ≤ n) (hn2 : n ≤ 90000) (hK : K ≤ 256) (hQ : Q = (K + 1) / 2) (h : ((n - G : Nat) : Int) = (K : Int)) (w : World) :
    Calls Try.prog 42 #[rv K B (.slice sa n cap) G] w fun e w' => e = .returned (.tuple #[rv K B (.slice sa n cap) ((G + Q : Nat) : Int), .int .i64 Q, .int .i64 0]) ∧ Below w.heap.size w w' := by
  have H := Lib.hid h
  clear h
  have hx := Lib.hid (al (x := .cells #[.int .i64 0, .int .i64 0, .slice none 0 0, .int .i64 0] 72) (nw (w := w) (o := .cells #[.int .i64 (K : Int), .int .i64 B, .slice sa n cap, .int .i64 (G : Int)] 72)))
  have hy := Lib.hid (nwk (w := w.alloc (.cells #[.int .i64 (K : Int), .int .i64 B, .slice sa n cap, .int .i64 (G : Int)] 72)) (o := .cells #[.int .i64 0, .int .i64 0, .slice none 0 0, .int .i64 0] 72) (k := w.heap.size + 1) (by simp))
  have q1 : (K : Int) / 2 + (K : Int) % 2 = (Q : Int) := by omega
  have hQb : (Q : Int) ≤ 256 := by omega
  have hGb : (G : Int) ≤ 90000 := by omega
  have hKb : (K : Int) ≤ 256 := by omega
  clear hQ
  go_enter Try.func42, Try.ntmps42
  go_wp2_with fail
  refine (ref_full (B := B) hn hG H.out _).mono ?_
  rintro e w1 ⟨rfl, hb⟩
  have HX1 := Lib.hid (carry hb hx.out); have HY1 := Lib.hid (carry hb hy.out)
  have W1 := Lib.hid (bnext (balloc (balloc (Below.refl _ w) _) _) hb)
  obtain ⟨c0, c1, c2, c3⟩ := cell_4 HX1.out
  obtain ⟨d0, d1, d2, d3⟩ := cell_4 HY1.out
  obtain ⟨e0, e1, e2, e3⟩ := free_4 HY1.out
  obtain ⟨g0, g1, g2, g3⟩ := free_4 HX1.out
  have l0 := lt_of_block HX1.out
  have l1 := lt_of_block HY1.out
  clear hb
  dsimp only
  go_wp2_with fail
  refine bodyPost_ret (v := .tuple #[rv K B (.slice sa n cap) ((G : Int) + (Q : Int)), .int .i64 Q, .int .i64 0]) (by simp [results, Try.results42, go_sem, d0, d1, d2, d3]) rfl ⟨by push_cast; rfl, ?_⟩
  (repeat' (first | with_reducible exact W1.out | with_reducible refine bset ?_ ?_ _ | with_reducible refine balloc ?_ _)); all_goals omega

theorem found_unique {l p : List Int} {fr : Nat} {u v : Int} (h1 : FoundL l p fr u) (h2 : FoundL l p fr v) : u = v := by
  rcases h1 with ⟨rfl, h1⟩ | ⟨a, rfl, a1, a2, a3, a4⟩
  · rcases h2 with ⟨rfl, _⟩ | ⟨b, rfl, b1, b2, b3, _⟩
    · rfl
    · exact (h1 b b1 b2 b3).elim
  · rcases h2 with ⟨rfl, h2⟩ | ⟨b, rfl, b1, b2, b3, b4⟩
    · exact (h2 a a1 a2 a3).elim
    · rcases Nat.lt_trichotomy a b with h | h | h
      · exact (b4 a a1 h a3).elim
      · rw [h]
      · exact (a4 b b1 h b3).elim
end Go.Proofs.Ytogdhmbdackeeaa
