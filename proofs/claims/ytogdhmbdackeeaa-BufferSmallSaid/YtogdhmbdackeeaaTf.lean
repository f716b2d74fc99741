import Derived.Test.YtogdhmbdackeeaaTe
namespace Go.Proofs.Ytogdhmbdackeeaa
open Go.RowKit
set_option linter.unusedVariables false

theorem Reads.lowN {w w' : World} {v : Value} {p : List Int} {n : Nat} (h : Reads w v p) (hn : w.heap.size ≤ n) (hb : Below n w w') : Reads w' v p := by
  obtain ⟨sa, c, e, hc⟩ := h
  refine ⟨sa, c, e, fun j hj => ?_⟩
  obtain ⟨pb, po, e1, e2⟩ := hc j hj
  exact ⟨pb, po, e1, (hb.cell (p := ⟨pb, po + j, none⟩) (Nat.lt_of_lt_of_le (World.block_lt_of_cell? _ _ e2) hn)).trans e2⟩
/-- An act that lies at (pb, o). -/
def ActAt (M : Nat) (w : World) (pb o : Nat) : Prop :=
  ∃ (kind c N : Int) (bs : Value) (p : List Int), w.cell? ⟨pb, o, none⟩ = some (.int .u8 kind) ∧ w.cell? ⟨pb, o + 1, none⟩ = some (.int .u8 c) ∧ w.cell? ⟨pb, o + 2, none⟩ = some (.int .i64 N) ∧ w.cell? ⟨pb, o + 3, none⟩ = some bs ∧
    0 ≤ kind ∧ kind ≤ 255 ∧ 0 ≤ c ∧ c ≤ 255 ∧ Reads w bs p ∧ (∀ n c, bs = .slice none n c → bs = .slice none 0 0 ∧ p = []) ∧ p.length ≤ M ∧ Bytes p
theorem ActAt.next {M : Nat} {w w' : World} {pb o : Nat} (h : ActAt M w pb o) (hb : Below w.heap.size w w') : ActAt M w' pb o := by
  obtain ⟨kind, c, N, bs, p, h1, h2, h3, h4, h5, h6, h7, h8, h9, h10, h11, h12⟩ := h
  have lt := World.block_lt_of_cell? _ _ h1
  exact ⟨kind, c, N, bs, p, (hb.cell (p := ⟨pb, o, none⟩) lt).trans h1, (hb.cell (p := ⟨pb, o + 1, none⟩) lt).trans h2, (hb.cell (p := ⟨pb, o + 2, none⟩) lt).trans h3, (hb.cell (p := ⟨pb, o + 3, none⟩) lt).trans h4, h5, h6, h7, h8, h9.next hb, h10, h11, h12⟩
/-- A slice of n acts. -/
def Acts (M : Nat) (w : World) (v : Value) (n : Nat) : Prop := ∃ aa cap, v = .slice aa n cap ∧ ∀ k, k < n → ∃ pb po, aa = some ⟨pb, po, none⟩ ∧ ActAt M w pb (po + k * 4)
theorem Acts.next {M : Nat} {w w' : World} {v : Value} {n : Nat} (h : Acts M w v n) (hb : Below w.heap.size w w') : Acts M w' v n := by
  obtain ⟨aa, cap, e, h⟩ := h
  refine ⟨aa, cap, e, fun k hk => ?_⟩
  obtain ⟨pb, po, e1, h1⟩ := h k hk
  exact ⟨pb, po, e1, h1.next hb⟩
theorem Row.block {w w' : World} {R : Nat} {v : Value} {l : List Int} (h : Row w R v l) (hv : ∀ g, v.ownBlock = some g → w'.heap[g]? = w.heap[g]?) : Row w' R v l := by
  refine ⟨h.1, ?_⟩
  rcases h.2 with h2 | ⟨g, cap, cur, e, hg, hh, rest⟩
  · exact .inl h2
  · exact .inr ⟨g, cap, cur, e, hg, (hv g (by rw [e]; rfl)).trans hh, rest⟩
theorem Row.ne_box {w : World} {R r : Nat} {v : Value} {l : List Int} {cs : Array Value} (h : Row w R v l) (hx : w.heap[r]? = some (.cells cs 72)) : ∀ g, v.ownBlock = some g → g ≠ r := by
  intro g hg e
  subst e
  rcases h.2 with ⟨e, _⟩ | ⟨g', cap, cur, e, hg', hh, rest⟩
  · rw [e] at hg; cases hg
  · rw [e] at hg
    obtain rfl : g' = g := by simpa [Value.ownBlock] using hg
    rw [hh] at hx
    simp at hx
theorem set_four {w : World} {r : Nat} {x0 x1 x2 x3 y0 y1 y2 y3 : Value} {t : TypeId} (h : w.heap[r]? = some (.cells #[x0, x1, x2, x3] t)) :
    ((((w.setCell ⟨r, 0, none⟩ y0).setCell ⟨r, 1, none⟩ y1).setCell ⟨r, 2, none⟩ y2).setCell ⟨r, 3, none⟩ y3).heap[r]? = some (.cells #[y0, y1, y2, y3] t) :=
  heap_setCell_at (heap_setCell_at (heap_setCell_at (heap_setCell_at h)))
theorem far_four {w : World} {r g : Nat} {y0 y1 y2 y3 : Value} (h : g ≠ r) :
    ((((w.setCell ⟨r, 0, none⟩ y0).setCell ⟨r, 1, none⟩ y1).setCell ⟨r, 2, none⟩ y2).setCell ⟨r, 3, none⟩ y3).heap[g]? = w.heap[g]? := by
  rw [heap_setCell_ne (by omega), heap_setCell_ne (by omega), heap_setCell_ne (by omega), heap_setCell_ne (by omega)]
/-- A DS under a store to the box r. -/
theorem DS.four {w : World} {b K r : Nat} {B : Int} {v : Value} {A : List Int} {G : Nat} {cs : Array Value} {y0 y1 y2 y3 : Value} (s : DS w b K B v A G) (hx : w.heap[r]? = some (.cells cs 72)) (hbr : b ≠ r) :
    DS ((((w.setCell ⟨r, 0, none⟩ y0).setCell ⟨r, 1, none⟩ y1).setCell ⟨r, 2, none⟩ y2).setCell ⟨r, 3, none⟩ y3) b K B v A G :=
  ⟨(((s.buf.set hbr).set hbr).set hbr).set hbr, s.row.block fun g hg => far_four (s.row.ne_box hx g hg), s.apart, s.hG, s.byt, s.b0, s.b1⟩

set_option maxRecDepth 20000 in
set_option maxHeartbeats 1000000 in
theorem does_bad {w : World} {s a i : Int} {v : Value} (h : s < 2 ∨ 256 < s ∨ a < 0 ∨ 281474976710656 < a) :
    Calls Try.prog 27 #[.int .i64 s, .int .i64 a, v, .int .i64 i] w fun e w' => e = .returned (.bool true) ∧ Below w.heap.size w w' := by
  have HH := Lib.hid h
  clear h
  go_enter Try.func27, Try.ntmps27
  go_wp2_with (first | (go_at_call 11; refine (new_bad s a HH.out _).mono ?_; rintro e w1 ⟨rfl, rfl⟩) | (go_at_call 33; refine (good_no s a HH.out _).mono ?_; rintro e w2 ⟨rfl, rfl⟩))
  go_ret
  exact ⟨rfl, Below.refl _ _⟩

set_option maxRecDepth 100000 in
set_option maxHeartbeats 8000000 in
theorem does_good {M : Nat} {w : World} {K n : Nat} {a i : Int} {v : Value} (h1 : 2 ≤ K) (h2 : K ≤ 256) (h3 : 0 ≤ a) (h4 : a ≤ 281474976710656) (hi0 : -9223372036854775808 ≤ i) (hi1 : i ≤ 9223372036854775807)
    (hacts : Acts M w v n) (hM : M ≤ 1000) (hn : n ≤ 10000) :
    Calls Try.prog 27 #[.int .i64 (K : Int), .int .i64 a, v, .int .i64 i] w fun e w' => e = .returned (.bool true) ∧ Below w.heap.size w w' := by
  have HA := Lib.hid hacts
  obtain ⟨aa, cap, rfl, hjunk⟩ := hacts
  clear hjunk
  go_enter Try.func27, Try.ntmps27
  go_wp2_with (first
    | (go_at_call 11; refine (bnew (K : Int) a (by omega) (by omega) h3 h4 _).mono ?_; rintro e w1 ⟨rfl, hbf, hb⟩; have BF1 := Lib.hid hbf; have W1 := Lib.hid hb; have hw1 := hb.size; clear hbf hb)
    | (go_at_call 33; refine (good_yes (K : Int) a (by omega) (by omega) h3 h4 _).mono ?_; rintro e w1b ⟨rfl, rfl⟩; have P1 := Lib.hid (nw (w := w1) (o := .cells #[.int .i64 (K : Int), .int .i64 a, .slice none 0 0, .int .i64 0] 72)))
    | (go_at_call 34; refine (told_is (w := w1.alloc (.cells #[.int .i64 (K : Int), .int .i64 a, .slice none 0 0, .int .i64 0] 72)) (G := 0) (A := []) (sa := none) (cap := 0) (B := a) (i := i) (by simpa using BF1.out.alloc _) reads_nil (Nat.le_refl _) (Nat.le_refl _) (Nat.zero_le _) (by intro x hx; cases hx) h3 h4 hi0 hi1).mono ?_; rintro e w2 ⟨rfl, hb⟩; have hb2 := bnext (balloc (Below.refl _ w1) (.cells #[.int .i64 (K : Int), .int .i64 a, .slice none 0 0, .int .i64 0] 72)) hb; have BF2 := Lib.hid (BF1.out.next hb2); have P2 := Lib.hid (carry hb P1.out); have W2 := Lib.hid (bnext W1.out hb2); clear hb hb2))
  have lb := BF1.out.lt
  have BS := BF1.out.size_le
  go_loopg [9, 50] n (fun gk x j wr => ∃ (k b : Nat) (v : Value) (A : List Int) (G : Nat), k + gk = n ∧ j = .int .i64 k ∧ x = at0 b ∧ wr.heap[w1.heap.size]? = some (.cells #[.int .i64 (K : Int), .int .i64 a, v, .int .i64 (G : Int)] 72) ∧ DS wr b K a v A G ∧ A.length ≤ k ∧ w.heap.size ≤ b ∧ b ≠ w1.heap.size ∧ Below w.heap.size w wr)
  case atStart => exact ⟨0, w.heap.size, _, [], 0, by omega, rfl, rfl, P2.out, ⟨by simpa using BF2.out, Row.nil, (by intro g hg; cases hg), Nat.le_refl _, (by intro x hx; cases hx), h3, h4⟩, Nat.le_refl _, Nat.le_refl _, by omega, W2.out⟩
  case round =>
    obtain ⟨k, b, v, A, G, hk, rfl, rfl, hp, hds, hal, hb0, hb1, hb⟩ := hrel
    have HK := Lib.hid hk; have P3 := Lib.hid hp; have S3 := Lib.hid hds; have W3 := Lib.hid hb
    have lbr := hds.buf.lt
    have hsz := hb.size
    clear hk hp hds hb
    by_cases hlt : k < n
    · obtain ⟨aa', cap', e, hactall⟩ := HA.out
      obtain ⟨pb, po, e2, hact⟩ := hactall k hlt
      obtain rfl : aa = some ⟨pb, po, none⟩ := by simp only [Value.slice.injEq] at e; rw [e.1, e2]
      clear e e2 hactall
      obtain ⟨kind, c, N, bs, p, c0, c1, c2, c3, k0, k1, k2, k3, hr, hnl, hpl, hP⟩ := hact
      obtain ⟨ba, bc, hbs, hcell⟩ := hr
      subst hbs
      have hr : Reads w (.slice ba p.length bc) p := ⟨ba, bc, rfl, hcell⟩
      clear hcell
      have clt := World.block_lt_of_cell? _ _ c0
      have HR := Lib.hid hr; have HNL := Lib.hid hnl; have HP := Lib.hid hP
      replace c0 := (W3.out.cell (p := ⟨pb, po + k * 4, none⟩) clt).trans c0
      replace c1 := (W3.out.cell (p := ⟨pb, po + k * 4 + 1, none⟩) clt).trans c1
      replace c2 := (W3.out.cell (p := ⟨pb, po + k * 4 + 2, none⟩) clt).trans c2
      replace c3 := (W3.out.cell (p := ⟨pb, po + k * 4 + 3, none⟩) clt).trans c3
      have lp := lt_of_block P3.out
      have C3 := Lib.hid (nw (w := wr) (o := .cells #[.int .u8 kind, .int .u8 c, .int .i64 N, .slice ba p.length bc] 57))
      clear hr hnl hP
      by_cases h7 : kind % 8 = 7
      · have h7' : kind.tmod 8 = 7 := by rw [Int.tmod_eq_emod_of_nonneg k0]; exact h7
        go_wp2_with (first
          | (go_at_call 26; refine (bcopy (S3.out.buf.alloc _)).mono ?_; rintro e w4 ⟨rfl, hbn, hb⟩; (obtain ⟨b', hb'⟩ : ∃ b', b' = (wr.alloc (.cells #[.int .u8 kind, .int .u8 c, .int .i64 N, .slice ba p.length bc] 57)).heap.size := ⟨_, rfl⟩); rw [← hb'] at hbn ⊢; have hb2 := bnext (balloc (Below.refl _ wr) (.cells #[.int .u8 kind, .int .u8 c, .int .i64 N, .slice ba p.length bc] 57)) hb; have hbw : wr.heap.size < b' := (by rw [hb']; simp); have N4 := Lib.hid hbn; have E4 := Lib.hid (S3.out.buf.next hb2); have R4 := Lib.hid (S3.out.row.next hb2); have P4 := Lib.hid (carry hb2 P3.out); have C4 := Lib.hid (carry hb C3.out); have W4 := Lib.hid (bnext W3.out hb2); (obtain ⟨n0, n1, n2, n3⟩ := cell_4 C4.out); clear hb' hbn hb hb2)
          | (go_at_call 17; refine (bput_any (c := c) E4.out).mono ?_; rintro e w5 ⟨x1, rfl, l1, a1, hbf, hr⟩; have E5 := Lib.hid hbf; have N5 := Lib.hid (N4.out.keep hr (.inr (by omega))); have R5 := Lib.hid (R4.out.rgb S3.out.apart hr); have P5 := Lib.hid (hr.keep (by omega) P4.out); have C5 := Lib.hid (hr.keep (by omega) C4.out); have W5 := Lib.hid (W4.out.trans (hr.low.mono hb0)); clear hbf hr)
          | (go_at_call 13; refine (btake_any (n := 1) E5.out).mono ?_; rintro e w6 ⟨x2, x3, z1, rfl, l2, a2, hbf, hr⟩; clear n0 n1 n2 n3; have N6 := Lib.hid (N5.out.keep hr (.inr (by omega))); have R6 := Lib.hid (R5.out.rgb S3.out.apart hr); have P6 := Lib.hid (hr.keep (by omega) P5.out); have C6 := Lib.hid (hr.keep (by omega) C5.out); have W6 := Lib.hid (W5.out.trans (hr.low.mono hb0)); (obtain ⟨m0, m1, m2, m3⟩ := cell_4 P6.out); (obtain ⟨n0, n1, n2, n3⟩ := cell_4 C6.out); have S6 := Lib.hid (show DS w6 b' K a v A G from ⟨N6.out, R6.out, fun g hg => (by have := (S3.out.row.own_lt hg).2; omega), S3.out.hG, S3.out.byt, S3.out.b0, S3.out.b1⟩); clear hbf hr)
          | (go_at_call 35; refine (do_true (N := N) S6.out (by omega) k0 k1 k2 k3 (HR.out.next W6.out) HNL.out (by omega) HP.out).mono ?_; rintro e w7 ⟨v7, A7, G7, rfl, hds, hal7, hr⟩; have S7 := Lib.hid hds; have P7 := Lib.hid (hr.keep (by omega) P6.out); have W7 := Lib.hid (W6.out.trans (hr.low.mono (by omega))); (obtain ⟨q0, q1, q2, q3⟩ := cell_4 P7.out); (obtain ⟨f0, f1, f2, f3⟩ := free_4 P7.out); have lp7 := lt_of_block P7.out; have hw7 := W7.out.size; (obtain ⟨s7, cap7, hv7, hcap7⟩ := S7.out.row.le); subst hv7; have S8 := Lib.hid (S7.out.four (y0 := .int .i64 (K : Int)) (y1 := .int .i64 a) (y2 := .slice s7 A7.length cap7) (y3 := .int .i64 (G7 : Int)) P7.out (by omega)); have P8 := Lib.hid (set_four (y0 := .int .i64 (K : Int)) (y1 := .int .i64 a) (y2 := .slice s7 A7.length cap7) (y3 := .int .i64 (G7 : Int)) P7.out); have W8 := Lib.hid (bset (bset (bset (bset W7.out (by omega) (.int .i64 (K : Int)) (b := w1.heap.size) (off := 0)) (by omega) (.int .i64 a) (b := w1.heap.size) (off := 1)) (by omega) (.slice s7 A7.length cap7) (b := w1.heap.size) (off := 2)) (by omega) (.int .i64 (G7 : Int)) (b := w1.heap.size) (off := 3)); clear hds hr)
          | (go_at_call 34; refine (told_is (A := A7) (G := G7) (B := a) S8.out.buf S8.out.row.reads hcap7 S8.out.hG (by omega) S8.out.byt h3 h4 hi0 hi1).mono ?_; rintro e w9 ⟨rfl, hb⟩; have S9 := Lib.hid (S8.out.next hb); have P9 := Lib.hid (carry hb P8.out); have W9 := Lib.hid (bnext W8.out hb); clear hb))
        have hk := HK.out
        go_roundg (gk - 1)
        case rel => exact ⟨k + 1, b', _, A7, G7, by omega, by simp, rfl, P9.out, S9.out, by omega, by omega, by omega, W9.out⟩
        case measure => omega
      · have h7' : ¬ kind.tmod 8 = 7 := by rw [Int.tmod_eq_emod_of_nonneg k0]; exact h7
        have W6 := Lib.hid (balloc W3.out (.cells #[.int .u8 kind, .int .u8 c, .int .i64 N, .slice ba p.length bc] 57))
        have S6 := Lib.hid (S3.out.next (balloc (Below.refl _ wr) (.cells #[.int .u8 kind, .int .u8 c, .int .i64 N, .slice ba p.length bc] 57)))
        have P6 := Lib.hid (al (x := .cells #[.int .u8 kind, .int .u8 c, .int .i64 N, .slice ba p.length bc] 57) P3.out)
        obtain ⟨m0, m1, m2, m3⟩ := cell_4 P3.out
        obtain ⟨sv, cv, hvv, hcv⟩ := S3.out.row.le
        subst hvv
        go_wp2_with (first
          | (go_at_call 35; refine (do_true (N := N) S6.out (by omega) k0 k1 k2 k3 (HR.out.next W6.out) HNL.out (by omega) HP.out).mono ?_; rintro e w7 ⟨v7, A7, G7, rfl, hds, hal7, hr⟩; have S7 := Lib.hid hds; have P7 := Lib.hid (hr.keep (by omega) P6.out); have W7 := Lib.hid (W6.out.trans (hr.low.mono (by omega))); (obtain ⟨q0, q1, q2, q3⟩ := cell_4 P7.out); (obtain ⟨f0, f1, f2, f3⟩ := free_4 P7.out); have lp7 := lt_of_block P7.out; have hw7 := W7.out.size; (obtain ⟨s7, cap7, hv7, hcap7⟩ := S7.out.row.le); subst hv7; have S8 := Lib.hid (S7.out.four (y0 := .int .i64 (K : Int)) (y1 := .int .i64 a) (y2 := .slice s7 A7.length cap7) (y3 := .int .i64 (G7 : Int)) P7.out (by omega)); have P8 := Lib.hid (set_four (y0 := .int .i64 (K : Int)) (y1 := .int .i64 a) (y2 := .slice s7 A7.length cap7) (y3 := .int .i64 (G7 : Int)) P7.out); have W8 := Lib.hid (bset (bset (bset (bset W7.out (by omega) (.int .i64 (K : Int)) (b := w1.heap.size) (off := 0)) (by omega) (.int .i64 a) (b := w1.heap.size) (off := 1)) (by omega) (.slice s7 A7.length cap7) (b := w1.heap.size) (off := 2)) (by omega) (.int .i64 (G7 : Int)) (b := w1.heap.size) (off := 3)); clear hds hr)
          | (go_at_call 34; refine (told_is (A := A7) (G := G7) (B := a) S8.out.buf S8.out.row.reads hcap7 S8.out.hG (by omega) S8.out.byt h3 h4 hi0 hi1).mono ?_; rintro e w9 ⟨rfl, hb⟩; have S9 := Lib.hid (S8.out.next hb); have P9 := Lib.hid (carry hb P8.out); have W9 := Lib.hid (bnext W8.out hb); clear hb))
        have hk := HK.out
        go_roundg (gk - 1)
        case rel => exact ⟨k + 1, b, _, A7, G7, by omega, by simp, rfl, P9.out, S9.out, by omega, by omega, by omega, W9.out⟩
        case measure => omega
    · have hk := HK.out
      obtain rfl : k = n := by omega
      clear hk
      obtain ⟨sv, cv, hvv, hcv⟩ := S3.out.row.le
      subst hvv
      have hG := S3.out.hG
      have hAl : A.length ≤ 10000 := by omega
      go_upto_region 22 with fail
      have hb := (Below.refl wr.heap.size wr).drew
      have S4 := Lib.hid (S3.out.next (w' := wr.drew) hb)
      have P4 := Lib.hid (carry (w' := wr.drew) hb P3.out)
      have W4 := Lib.hid (bnext (w' := wr.drew) W3.out hb)
      clear hb
      obtain ⟨m0, m1, m2, m3⟩ := cell_4 P4.out
      go_region_held3 (fun w' => w'.cell? ⟨w1.heap.size, 0, none⟩ = some (.int .i64 (K : Int)) ∧ w'.cell? ⟨w1.heap.size, 1, none⟩ = some (.int .i64 a) ∧ w'.cell? ⟨w1.heap.size, 2, none⟩ = some (.slice sv A.length cv) ∧ w'.cell? ⟨w1.heap.size, 3, none⟩ = some (.int .i64 (G : Int)))
        (first | exact ⟨m0, m1, m2, m3⟩ | exact ⟨n0, n1, n2, n3⟩ | exact ⟨o0, o1, o2, o3⟩)
        (first
          | (go_at_call 15; refine (bbytes S4.out.buf).mono ?_; rintro e w5 ⟨v5, rfl, hrow, hb⟩; have R5 := Lib.hid (show Row w5 wr.drew.heap.size v5 (A.drop G) from hrow); have S5 := Lib.hid (S4.out.next hb); have P5 := Lib.hid (carry hb P4.out); have W5 := Lib.hid (bnext W4.out hb); (obtain ⟨n0, n1, n2, n3⟩ := cell_4 P5.out); clear hrow hb)
          | (go_at_call 36; refine (held_val (S := (K : Int)) (B := a) hcv hG _).mono ?_; rintro e w6 ⟨rfl, hb⟩; unfold hv; have R6 := Lib.hid (R5.out.next hb); have S6 := Lib.hid (S5.out.next hb); have P6 := Lib.hid (carry hb P5.out); have W6 := Lib.hid (bnext W5.out hb); (obtain ⟨o0, o1, o2, o3⟩ := cell_4 P6.out); clear hb)
          | (go_at_call 19; refine (equal_true R6.out.reads (S6.out.row.reads.tail hcv hG) (fun x hx => S6.out.byt x (List.mem_of_mem_drop hx))).mono ?_; rintro e w7 ⟨rfl, rfl⟩))
      go_wp2_with fail
      go_ret
      exact ⟨rfl, W6.out⟩
end Go.Proofs.Ytogdhmbdackeeaa
