import Derived.Test.YtogdhmbdackeeaaS
import Derived.IntWalk
import Derived.Deep.RegionHeld3
namespace Go.Proofs.Ytogdhmbdackeeaa
open Go.RowKit
set_option linter.unusedVariables false

theorem sz_nat (n : Int) (h0 : 0 ≤ n) (h1 : n ≤ 255) : ∃ K : Nat, sz n = (K : Int) ∧ 2 ≤ K ∧ K ≤ 256 := by
  have := sz_le h0 h1
  exact ⟨(sz n).toNat, by omega, by omega, by omega⟩
theorem sz_isK {n : Int} {K : Nat} (h0 : 0 ≤ n) (h1 : n ≤ 255) (hK : sz n = (K : Int)) (w : World) : Calls Try.prog 12 #[.int .u8 n] w fun e w' => e = .returned (.int .i64 (K : Int)) ∧ w = w' := by
  rw [← hK]; exact sz_is n h0 h1 w

theorem bdiscardK {w : World} {b K Q : Nat} {a : Int} {l : List Int} (H : Buf w b (K : Int) l a) (he : l.length = K) (hQ : Q = (K + 1) / 2) :
    Calls Try.prog 16 #[at0 b] w fun e w' => e = .returned (.tuple #[part a (a + Q), .int .i64 0]) ∧ Buf w' b (K : Int) (l.drop Q) (a + Q) ∧ Rg b (b + 1) w w' := by
  have := bdiscard H (by omega)
  rwa [show (((K : Int) + 1) / 2) = (Q : Int) by omega, show ((Q : Int)).toNat = Q by omega] at this
theorem Row.nil {w : World} {R : Nat} : Row w R (.slice none 0 0) [] := ⟨rfl, .inl ⟨rfl, rfl⟩⟩

set_option maxRecDepth 100000 in
set_option maxHeartbeats 4000000 in
theorem room_true (n c rounds : Int) (h0 : 0 ≤ n) (h1 : n ≤ 255) (c0 : 0 ≤ c) (c1 : c ≤ 255) (r0 : 0 ≤ rounds) (r1 : rounds ≤ 255) (w : World) :
    Calls Try.prog 4 #[.int .u8 n, .int .u8 c, .int .u8 rounds] w fun e w' => e = .returned (.bool true) ∧ Below w.heap.size w w' := by
  obtain ⟨K, hK, K2, K256⟩ := sz_nat n h0 h1
  have HK := Lib.hid hK
  clear hK
  go_enter Try.func4, Try.ntmps4
  go_wp2_with (first | (go_at_call 10; refine (awake_true _).mono ?_; rintro e w1 ⟨rfl, hb⟩; have D1 := Lib.hid (carry hb (nw (w := w) (o := .cells #[.int .u8 c] 5))); have W1 := Lib.hid (bnext (balloc (Below.refl _ w) _) hb); have L1b := lt_of_block D1.out; clear hb) | (go_at_call 12; refine (sz_isK h0 h1 HK.out _).mono ?_; rintro e w' ⟨rfl, rfl⟩))
  refine (bnew (K : Int) 0 (by omega) (by omega) (by omega) (by omega) _).mono ?_
  rintro e w2 ⟨rfl, hb, hw⟩
  have B2 := Lib.hid hb
  have W2 := Lib.hid (bnext W1.out hw)
  replace D1 := Lib.hid (carry hw D1.out)
  have L1 := W1.out.size
  have L2 := lt_of_block D1.out
  clear hb hw
  dsimp only
  go_upto_region 9 with fail
  obtain ⟨b, hb1⟩ : ∃ b, b = w1.heap.size := ⟨_, rfl⟩
  obtain ⟨bb, hbb⟩ : ∃ bb, bb = w2.heap.size := ⟨_, rfl⟩
  obtain ⟨W0, hW0⟩ : ∃ W0, W0 = (w2.alloc (.cells #[at0 w1.heap.size] 25)).alloc (.cells #[.slice none 0 0] 23) := ⟨_, rfl⟩
  have S0 := Lib.hid (show St W0 (bb + 2) (bb + 1) bb w.heap.size b (K : Int) c (.slice none 0 0) [] [] 0 by
    subst hb1; subst hbb; subst hW0
    have lb := B2.out.lt
    exact ⟨nwk (by simp), al nw, al (al D1.out), Row.nil, (B2.out.alloc _).alloc _, c0, c1, L1b, lb, by omega, by omega, by simp, fun x hx => by simp at hx⟩)
  have W3 := Lib.hid (show Below w.heap.size w W0 by subst hW0; exact balloc (balloc W2.out _) _)
  rw [← hb1] at hW0
  rw [← hb1, ← hW0, ← hbb]
  clear hb1 hbb hW0 D1 W2 B2 W1 L2 L1 L1b
  go_wp2_with fail
  refine (next_is S0.out (by simp) (by omega) (by simp) (by omega)).mono ?_
  rintro e w4 ⟨rfl, c4, v4, m, s, hm, hb⟩
  simp only [List.nil_append] at s hm
  obtain ⟨sa, cap, rfl, hcap⟩ := s.row.le
  have S4 := Lib.hid s
  have W4 := Lib.hid (W3.out.trans hb)
  have hm2 : (m.length : Int) = K := hm
  obtain ⟨e0, f0⟩ := cell_one s.all
  obtain ⟨e1, f1⟩ := cell_one s.box
  clear s hm hb
  dsimp only
  go_wp2_with (go_at_call 21; refine (bsize S4.out.buf).mono ?_; rintro e w' ⟨rfl, rfl⟩)
  have HM := Lib.hid hm2
  clear hm2 e0 e1 f0 f1
  go_loopg [50] (rounds % 6).toNat (fun gk i wr => ∃ j : Nat, j + gk = (rounds % 6).toNat ∧ i = .int .u8 j ∧ ∃ c v pre h a, St wr (bb + 2) (bb + 1) bb w.heap.size b K c v (pre ++ h) h a ∧ h.length = K ∧ pre.length ≤ 128 * j ∧ 0 ≤ a ∧ a ≤ 128 * j ∧ Below w.heap.size w wr)
  case atStart =>
    exact ⟨0, by omega, rfl, c4, _, [], m, 0, S4.out, by have := HM.out; omega, by simp, by omega, by omega, W4.out⟩
  case round =>
    obtain ⟨j, hj, rfl, c5, v5, pre, h, a, s, hh, hp, ha0, ha1, hb⟩ := hrel
    obtain ⟨sb, cap5, rfl, hcap5⟩ := s.row.le
    have S5 := Lib.hid s; have W5 := Lib.hid hb; have HJ := Lib.hid hj; have HH := Lib.hid hh
    obtain ⟨L, hL⟩ : ∃ L, L = pre ++ h := ⟨_, rfl⟩
    have HLL := Lib.hid (show L.length = pre.length + K by rw [hL, List.length_append, hh])
    rw [← hL] at S5 hcap5 s
    have EL := Lib.hid hL
    obtain ⟨e0, f0⟩ := cell_one s.all
    obtain ⟨e1, f1⟩ := cell_one s.box
    obtain ⟨Q, hQ⟩ : ∃ Q, Q = (K + 1) / 2 := ⟨_, rfl⟩
    have HQ := Lib.hid hQ
    have q1 : ((K : Int) + 1) / 2 = (Q : Int) := by omega
    have Q0 : (Q : Int) ≤ K := by omega
    have N5 := W5.out.size
    clear s hb hj hh hL hQ
    by_cases hlt : (j : Int) < rounds % 6
    · go_wp2_with fail
      refine (bdiscardK S5.out.buf HH.out HQ.out).mono ?_
      rintro e w6 ⟨rfl, hb, hr⟩
      have S6 := Lib.hid (S5.out.act hr hb)
      have W6 := Lib.hid (W5.out.trans (hr.low.mono (by have := S5.out.o1; omega)))
      clear hb hr e0 f0 e1 f1
      dsimp only
      go_upto_region 15 with fail
      obtain ⟨D, hD⟩ : ∃ D, D = L.length - K / 2 := ⟨_, rfl⟩
      have hDL : L.drop D = h.drop Q := by
        have h1 := HLL.out; have h2 := HQ.out; have h3 := EL.out
        rw [hD, h3, List.drop_append, List.drop_eq_nil_of_le (by rw [List.length_append, HH.out]; omega), List.nil_append, List.length_append, HH.out]
        congr 1; omega
      have hD1 : D ≤ L.length := by omega
      have hD2 : (L.length : Int) - (K : Int) / 2 = (D : Int) := by have := HLL.out; omega
      have HD := Lib.hid hDL
      have hlen := HLL.out
      have hsl := fun W => slice_l W sb L.length cap5 D (l := (D : Int)) rfl hD1 hcap5
      have S7 := Lib.hid (S6.out.next (w' := (w6.alloc (.cells #[.int .i64 a, .int .i64 (a + Q)] 31)).drew) ((balloc (Below.refl _ _) _).drew))
      have W7 := Lib.hid (show Below w.heap.size w (w6.alloc (.cells #[.int .i64 a, .int .i64 (a + Q)] 31)).drew from (balloc W6.out _).drew)
      obtain ⟨e0, f0⟩ := cell_one S7.out.all
      obtain ⟨e1, f1⟩ := cell_one S7.out.box
      have p0 : (a + (Q : Int)) - a = Q := by omega
      have p1 : IntKind.i64.wrap ((K : Int) + 1) = (K : Int) + 1 := IntWalk.i64_in _ (by omega)
      have p2 : ((K : Int) + 1).tdiv 2 = (Q : Int) := by rw [Int.tdiv_eq_ediv_of_nonneg (by omega)]; exact q1
      have p3 : IntKind.i64.wrap (Q : Int) = (Q : Int) := IntWalk.i64_in _ (by omega)
      obtain ⟨H2, hH2⟩ : ∃ H2, H2 = K / 2 := ⟨_, rfl⟩
      have p4 : IntKind.i64.wrap ((K : Int) / 2) = (H2 : Int) := by rw [IntWalk.i64_in _ (by omega)]; omega
      have p5 : IntKind.i64.wrap ((L.length : Int) - (H2 : Int)) = (D : Int) := by rw [IntWalk.i64_in _ (by omega)]; omega
      have BH := Lib.hid (show Bytes (h.drop Q) by rw [← hDL]; exact fun x hx => S6.out.bl x (List.mem_of_mem_drop hx))
      clear hDL hD
      clear hH2 hD2 hlen
      obtain ⟨e4, e5, f4, f5⟩ := cell_two (show (w6.alloc (.cells #[.int .i64 a, .int .i64 (a + Q)] 31)).drew.heap[w6.heap.size]? = _ from nw)
      have P7 := Lib.hid (show (w6.alloc (.cells #[.int .i64 a, .int .i64 (a + Q)] 31)).drew.heap[w6.heap.size]? = _ from nw)
      go_region_held3 (fun w' => w'.cell? ⟨bb + 1, 0, none⟩ = some (.slice sb L.length cap5) ∧ w'.cell? ⟨bb, 0, none⟩ = some (at0 b) ∧ w'.cell? ⟨w6.heap.size, 0, none⟩ = some (.int .i64 a) ∧ w'.cell? ⟨w6.heap.size, 1, none⟩ = some (.int .i64 (a + Q)))
        (first | exact ⟨e0, e1, e4, e5⟩ | exact ⟨e2, e3, e6, e7⟩)
        (first
          | (go_at_call 15; refine (bbytes S7.out.buf).mono ?_; rintro e w8 ⟨v, rfl, hrow, hb⟩; have R8 := Lib.hid (Row.reads hrow); have S8 := Lib.hid (S7.out.next hb); have W8 := Lib.hid (bnext W7.out hb); (obtain ⟨e2, f2⟩ := cell_one S8.out.all); (obtain ⟨e3, f3⟩ := cell_one S8.out.box); (obtain ⟨e6, e7, f6, f7⟩ := cell_two (carry hb P7.out)); clear hb hrow)
          | (go_at_call 19; refine (equal_true R8.out (by rw [← HD.out]; exact S8.out.row.reads.tail hcap5 hD1) BH.out).mono ?_; rintro e w9 ⟨rfl, rfl⟩))
      clear e0 e1 e4 e5 f0 f1 f4 f5 p0 p1 p2 p3 p4 p5 hsl S7 W7 P7
      go_wp2_with fail
      have hdl : (h.drop Q).length = K - Q := by rw [List.length_drop, HH.out]
      refine (bdiscard_room S8.out.buf (by rw [hdl]; have := HQ.out; omega)).mono ?_
      rintro e w10 ⟨rfl, hb⟩
      have S10 := Lib.hid ((S8.out.next hb).next (balloc (Below.refl _ _) (.cells #[.int .i64 0, .int .i64 0] 31)))
      have W10 := Lib.hid (balloc (bnext W8.out hb) (.cells #[.int .i64 0, .int .i64 0] 31))
      clear hb e2 e3 e6 e7 f2 f3 f6 f7
      dsimp only
      go_upto_region 18 with fail
      go_wp2_with fail
      have hlenL := HLL.out
      have hj5 : j ≤ 4 := by omega
      refine (next_is S10.out (by omega) (by omega) (by rw [hdl]; omega) (by omega)).mono ?_
      rintro e w11 ⟨rfl, c11, v11, m11, s, hm, hb⟩
      obtain ⟨sd, cap11, rfl, hcap11⟩ := s.row.le
      obtain ⟨L2, hL2⟩ : ∃ L2, L2 = L ++ m11 := ⟨_, rfl⟩
      rw [← hL2] at s hcap11
      have S11 := Lib.hid s
      have W11 := Lib.hid (W10.out.trans hb)
      have EL2 := Lib.hid hL2
      obtain ⟨e0, f0⟩ := cell_one s.all
      have HM11 := Lib.hid (show (h.drop Q ++ m11).length = K by omega)
      have hmQ : m11.length = Q := by have := HM11.out; rw [List.length_append, hdl] at this; omega
      have hne : (L2.length : Int) = (L.length : Int) + (Q : Int) := by rw [hL2, List.length_append, hmQ]; push_cast; rfl
      have hLb : (L.length : Int) ≤ 1000 := by omega
      have hQb : (Q : Int) ≤ 256 := by omega
      clear hmQ
      clear s hm hb hL2 hlenL hdl
      dsimp only
      go_wp2_with fail
      have hj := HJ.out
      go_roundg (gk - 1)
      case rel =>
        have hq := HQ.out
        refine ⟨j + 1, by omega, by simp, c11, .slice sd L2.length cap11, pre ++ h.take Q, h.drop Q ++ m11, a + Q, ?_, HM11.out, ?_, by omega, by omega, W11.out⟩
        · have e : pre ++ h.take Q ++ (h.drop Q ++ m11) = L2 := by
            rw [EL2.out, EL.out, List.append_assoc, ← List.append_assoc (h.take Q), List.take_append_drop, List.append_assoc]
          rw [e]
          exact S11.out
        · rw [List.length_append, List.length_take]; omega
      case measure => omega
    · clear q1 Q0 e0 e1 f0 f1
      go_upto_region 21 with fail
      obtain ⟨D, hD⟩ : ∃ D, D = pre.length := ⟨_, rfl⟩
      have hDL : L.drop D = h := by
        rw [hD, EL.out, List.drop_append, List.drop_eq_nil_of_le (Nat.le_refl _), Nat.sub_self]; rfl
      have hD1 : D ≤ L.length := by have := HLL.out; omega
      have HD := Lib.hid hDL
      have hsl := fun W => slice_l W sb L.length cap5 D (l := (D : Int)) rfl hD1 hcap5
      have p5 : IntKind.i64.wrap ((L.length : Int) - (K : Int)) = (D : Int) := by have := HLL.out; have := HJ.out; rw [IntWalk.i64_in _ (by omega)]; omega
      have S7 := Lib.hid (S5.out.next (w' := wr.drew) (Below.refl _ _).drew)
      have W7 := Lib.hid (show Below w.heap.size w wr.drew from W5.out.drew)
      obtain ⟨e0, f0⟩ := cell_one S7.out.all
      obtain ⟨e1, f1⟩ := cell_one S7.out.box
      have BH := Lib.hid (show Bytes h by rw [← hDL]; exact fun x hx => S5.out.bl x (List.mem_of_mem_drop hx))
      clear hDL hD
      go_region_held3 (fun w' => w'.cell? ⟨bb + 1, 0, none⟩ = some (.slice sb L.length cap5) ∧ w'.cell? ⟨bb, 0, none⟩ = some (at0 b))
        (first | exact ⟨e0, e1⟩ | exact ⟨e2, e3⟩)
        (first
          | (go_at_call 15; refine (bbytes S7.out.buf).mono ?_; rintro e w8 ⟨v, rfl, hrow, hb⟩; have R8 := Lib.hid (Row.reads hrow); have S8 := Lib.hid (S7.out.next hb); have W8 := Lib.hid (bnext W7.out hb); (obtain ⟨e2, f2⟩ := cell_one S8.out.all); (obtain ⟨e3, f3⟩ := cell_one S8.out.box); clear hb hrow)
          | (go_at_call 19; refine (equal_true R8.out (by rw [← HD.out]; exact S8.out.row.reads.tail hcap5 hD1) BH.out).mono ?_; rintro e w9 ⟨rfl, rfl⟩))
      all_goals
        go_wp2_with fail
        go_ret
        exact ⟨rfl, W8.out⟩
end Go.Proofs.Ytogdhmbdackeeaa
