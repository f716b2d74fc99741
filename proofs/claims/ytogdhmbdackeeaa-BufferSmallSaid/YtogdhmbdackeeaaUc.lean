import Derived.Test.YtogdhmbdackeeaaUb
import Derived.Deep.RegionHeld3
import Derived.BigQuiet
import Derived.Test.YtogdhmbdackeeaaTa
namespace Go.Proofs.Ytogdhmbdackeeaa
open Go.RowKit
set_option linter.unusedVariables false
/-- The six acts of the first loop. -/
def L6 (b : Nat) : List Act4 := [(0, 97, 0, .slice none 0 0), (0, 98, 0, .slice none 0 0), (4, 0, 1, .slice none 0 0), (4, 0, 2, .slice none 0 0), (5, 0, 0, .slice none 0 0), (6, 0, 0, .slice (some ⟨b, 0, none⟩) 2 2)]
theorem L6_at (b n : Nat) (h : n < 6) : ∃ (k c N : Int) (ba : Option Addr) (m bc : Nat), (L6 b)[n]? = some (k, c, N, .slice ba m bc) := by
  match n, h with
  | 0, _ => exact ⟨_, _, _, _, _, _, rfl⟩
  | 1, _ => exact ⟨_, _, _, _, _, _, rfl⟩
  | 2, _ => exact ⟨_, _, _, _, _, _, rfl⟩
  | 3, _ => exact ⟨_, _, _, _, _, _, rfl⟩
  | 4, _ => exact ⟨_, _, _, _, _, _, rfl⟩
  | 5, _ => exact ⟨_, _, _, _, _, _, rfl⟩
theorem reads_ab {w : World} {b : Nat} {x y : Int} {t : TypeId} {f : Nat × Nat} (h : w.heap[b]? = some (.cells #[.int .u8 x, .int .u8 y] t f)) : Reads w (.slice (some ⟨b, 0, none⟩) 2 2) [x, y] := by
  refine ⟨some ⟨b, 0, none⟩, 2, rfl, fun j hj => ⟨b, 0, rfl, ?_⟩⟩
  simp only [List.length_cons, List.length_nil] at hj
  match j, hj with
  | 0, _ => simp [World.cell?, h, rd]
  | 1, _ => simp [World.cell?, h, rd]
theorem L6_good {M : Nat} {w : World} {b : Nat} {f : Nat × Nat} (hM : 300 ≤ M) (h : w.heap[b]? = some (.cells #[.int .u8 97, .int .u8 98] 5 f)) : ∀ x ∈ L6 b, GoodA M w x := by
  intro x hx
  simp only [L6, List.mem_cons, List.not_mem_nil, or_false] at hx
  rcases hx with rfl | rfl | rfl | rfl | rfl | rfl
  · exact good_nil (by decide) (by decide) (by decide) (by decide)
  · exact good_nil (by decide) (by decide) (by decide) (by decide)
  · exact good_nil (by decide) (by decide) (by decide) (by decide)
  · exact good_nil (by decide) (by decide) (by decide) (by decide)
  · exact good_nil (by decide) (by decide) (by decide) (by decide)
  · exact ⟨by simp, by simp, by simp, by simp, [97, 98], reads_ab h, fun n c e => by simp at e, by simp; omega, fun x hx => by simp at hx; omega⟩

set_option maxRecDepth 100000 in
set_option maxHeartbeats 8000000 in
theorem small_true (w : World) : Calls Try.prog 9 #[] w fun e w' => e = .returned (.bool true) ∧ Below w.heap.size w w' := by
  have hcv := Lib.run_convert_bytes_const (P := Try.prog) w 23 5 #[.int .u8 97, .int .u8 98] 2 2 Try.underlying23 Try.underlying5
  obtain ⟨i0, hi, hz0, hz1, hz2⟩ := info_parts infoAct
  go_enter Try.func9, Try.ntmps9
  go_wp2_with fail
  clear hcv
  obtain ⟨w1, hw1⟩ : ∃ w1, w1 = (w.alloc (.cells #[.int .u8 97, .int .u8 98] 5 (2, 3))).alloc (.cells ((L6 w.heap.size).flatMap cell4).toArray 57) := ⟨_, rfl⟩
  have HE := Lib.hid (show w1.heap[w.heap.size + 1]? = some (.cells ((L6 w.heap.size).flatMap cell4).toArray 57) by rw [hw1]; exact nwk (by simp))
  have HS := Lib.hid (show w1.heap[w.heap.size]? = some (.cells #[.int .u8 97, .int .u8 98] 5 (2, 3)) by rw [hw1]; exact al nw)
  have W1 := Lib.hid (show Below w.heap.size w w1 by rw [hw1]; exact balloc (balloc (Below.refl _ _) _) _)
  have h1 : w1 = (w.alloc (.cells #[.int .u8 97, .int .u8 98] 5 (2, 3))).alloc (.cells #[.int .u8 0, .int .u8 97, .int .i64 0, .slice none 0 0, .int .u8 0, .int .u8 98, .int .i64 0, .slice none 0 0, .int .u8 4, .int .u8 0, .int .i64 1, .slice none 0 0, .int .u8 4, .int .u8 0, .int .i64 2, .slice none 0 0, .int .u8 5, .int .u8 0, .int .i64 0, .slice none 0 0, .int .u8 6, .int .u8 0, .int .i64 0, .slice (some ⟨w.heap.size, 0, none⟩) 2 2] 57) := hw1
  rw [← h1]
  clear h1 hw1
  have N1 := W1.out.size
  obtain ⟨NN, hNN⟩ : ∃ NN : Nat, NN = 46656 := ⟨_, rfl⟩
  have HNN := Lib.hid hNN
  clear hNN
  go_loopg [29] NN (fun gk i wr => ∃ k : Nat, k + gk = NN ∧ i = .int .i64 k ∧ Below w1.heap.size w1 wr)
  case atStart => exact ⟨0, by omega, rfl, Below.refl _ _⟩
  case round =>
    obtain ⟨k, hk, rfl, hb⟩ := hrel
    have HK := Lib.hid hk; have WR := Lib.hid hb
    by_cases hlt : k < NN
    · have hlt' : (k : Int) < 46656 := by have := HNN.out; omega
      clear hlt hk
      by_cases h5 : k % 5 = 0
      · have h5' : (k : Int) % 5 = 0 := by omega
        have h5t : (k : Int).tmod 5 = 0 := by rw [Int.tmod_eq_emod_of_nonneg (by omega)]; exact h5'
        obtain ⟨d0, hd0⟩ : ∃ d0, d0 = k := ⟨_, rfl⟩
        obtain ⟨d1, hd1⟩ : ∃ d, d = k / 6 := ⟨_, rfl⟩
        obtain ⟨d2, hd2⟩ : ∃ d, d = k / 36 := ⟨_, rfl⟩
        obtain ⟨d3, hd3⟩ : ∃ d, d = k / 216 := ⟨_, rfl⟩
        obtain ⟨d4, hd4⟩ : ∃ d, d = k / 1296 := ⟨_, rfl⟩
        obtain ⟨d5, hd5⟩ : ∃ d, d = k / 7776 := ⟨_, rfl⟩
        obtain ⟨j0, hj0⟩ : ∃ j, j = d0 % 6 := ⟨_, rfl⟩
        obtain ⟨j1, hj1⟩ : ∃ j, j = d1 % 6 := ⟨_, rfl⟩
        obtain ⟨j2, hj2⟩ : ∃ j, j = d2 % 6 := ⟨_, rfl⟩
        obtain ⟨j3, hj3⟩ : ∃ j, j = d3 % 6 := ⟨_, rfl⟩
        obtain ⟨j4, hj4⟩ : ∃ j, j = d4 % 6 := ⟨_, rfl⟩
        obtain ⟨j5, hj5⟩ : ∃ j, j = d5 := ⟨_, rfl⟩
        have a0 : j0 < 6 := by omega
        have a1 : j1 < 6 := by omega
        have a2 : j2 < 6 := by omega
        have a3 : j3 < 6 := by omega
        have a4 : j4 < 6 := by omega
        have a5 : j5 < 6 := by omega
        obtain ⟨k0, c0, N0, ba0, m0, bc0, hx0⟩ := L6_at w.heap.size j0 a0
        obtain ⟨cl00, cl01, cl02, cl03⟩ := block_at (carry hb HE.out) hx0
        obtain ⟨k1, c1, N1, ba1, m1, bc1, hx1⟩ := L6_at w.heap.size j1 a1
        obtain ⟨cl10, cl11, cl12, cl13⟩ := block_at (carry hb HE.out) hx1
        obtain ⟨k2, c2, N2, ba2, m2, bc2, hx2⟩ := L6_at w.heap.size j2 a2
        obtain ⟨cl20, cl21, cl22, cl23⟩ := block_at (carry hb HE.out) hx2
        obtain ⟨k3, c3, N3, ba3, m3, bc3, hx3⟩ := L6_at w.heap.size j3 a3
        obtain ⟨cl30, cl31, cl32, cl33⟩ := block_at (carry hb HE.out) hx3
        obtain ⟨k4, c4, N4, ba4, m4, bc4, hx4⟩ := L6_at w.heap.size j4 a4
        obtain ⟨cl40, cl41, cl42, cl43⟩ := block_at (carry hb HE.out) hx4
        obtain ⟨k5, c5, N5, ba5, m5, bc5, hx5⟩ := L6_at w.heap.size j5 a5
        obtain ⟨cl50, cl51, cl52, cl53⟩ := block_at (carry hb HE.out) hx5
        have HG := Lib.hid (show ∀ x ∈ ([(k0, c0, N0, .slice ba0 m0 bc0), (k1, c1, N1, .slice ba1 m1 bc1), (k2, c2, N2, .slice ba2 m2 bc2), (k3, c3, N3, .slice ba3 m3 bc3), (k4, c4, N4, .slice ba4 m4 bc4), (k5, c5, N5, .slice ba5 m5 bc5)] : List Act4), GoodA 300 wr x from by
          have hg := L6_good (M := 300) (by decide) (carry hb HS.out)
          intro x hx
          simp only [List.mem_cons, List.not_mem_nil, or_false] at hx
          rcases hx with rfl | rfl | rfl | rfl | rfl | rfl
          · exact hg _ (List.mem_of_getElem? hx0)
          · exact hg _ (List.mem_of_getElem? hx1)
          · exact hg _ (List.mem_of_getElem? hx2)
          · exact hg _ (List.mem_of_getElem? hx3)
          · exact hg _ (List.mem_of_getElem? hx4)
          · exact hg _ (List.mem_of_getElem? hx5))
        dsimp only at cl00 cl01 cl02 cl03 cl10 cl11 cl12 cl13 cl20 cl21 cl22 cl23 cl30 cl31 cl32 cl33 cl40 cl41 cl42 cl43 cl50 cl51 cl52 cl53
        have f0 : (k : Int) % 6 = (j0 : Int) := by omega
        have t0 : (k : Int).tmod 6 = (j0 : Int) := by rw [Int.tmod_eq_emod_of_nonneg (by omega)]; exact f0
        have f1 : (d1 : Int) % 6 = (j1 : Int) := by omega
        have t1 : (d1 : Int).tmod 6 = (j1 : Int) := by rw [Int.tmod_eq_emod_of_nonneg (by omega)]; exact f1
        have f2 : (d2 : Int) % 6 = (j2 : Int) := by omega
        have t2 : (d2 : Int).tmod 6 = (j2 : Int) := by rw [Int.tmod_eq_emod_of_nonneg (by omega)]; exact f2
        have f3 : (d3 : Int) % 6 = (j3 : Int) := by omega
        have t3 : (d3 : Int).tmod 6 = (j3 : Int) := by rw [Int.tmod_eq_emod_of_nonneg (by omega)]; exact f3
        have f4 : (d4 : Int) % 6 = (j4 : Int) := by omega
        have t4 : (d4 : Int).tmod 6 = (j4 : Int) := by rw [Int.tmod_eq_emod_of_nonneg (by omega)]; exact f4
        have e1 : (k : Int) / 6 = (d1 : Int) := by omega
        have g1 : IntKind.i64.wrap (d1 : Int) = d1 := IntWalk.i64_in _ (by omega)
        have e2 : (k : Int) / 36 = (d2 : Int) := by omega
        have g2 : IntKind.i64.wrap (d2 : Int) = d2 := IntWalk.i64_in _ (by omega)
        have e3 : (k : Int) / 216 = (d3 : Int) := by omega
        have g3 : IntKind.i64.wrap (d3 : Int) = d3 := IntWalk.i64_in _ (by omega)
        have e4 : (k : Int) / 1296 = (d4 : Int) := by omega
        have g4 : IntKind.i64.wrap (d4 : Int) = d4 := IntWalk.i64_in _ (by omega)
        have e5 : (k : Int) / 7776 = (j5 : Int) := by omega
        have b0 : (0 : Int) ≤ j0 := by omega
        have b0b : (j0 : Int) < 6 := by omega
        have y0 : IntKind.i64.wrap (j0 : Int) = j0 := IntWalk.i64_in _ (by omega)
        have b1 : (0 : Int) ≤ j1 := by omega
        have b1b : (j1 : Int) < 6 := by omega
        have y1 : IntKind.i64.wrap (j1 : Int) = j1 := IntWalk.i64_in _ (by omega)
        have b2 : (0 : Int) ≤ j2 := by omega
        have b2b : (j2 : Int) < 6 := by omega
        have y2 : IntKind.i64.wrap (j2 : Int) = j2 := IntWalk.i64_in _ (by omega)
        have b3 : (0 : Int) ≤ j3 := by omega
        have b3b : (j3 : Int) < 6 := by omega
        have y3 : IntKind.i64.wrap (j3 : Int) = j3 := IntWalk.i64_in _ (by omega)
        have b4 : (0 : Int) ≤ j4 := by omega
        have b4b : (j4 : Int) < 6 := by omega
        have y4 : IntKind.i64.wrap (j4 : Int) = j4 := IntWalk.i64_in _ (by omega)
        have b5 : (0 : Int) ≤ j5 := by omega
        have b5b : (j5 : Int) < 6 := by omega
        have y5 : IntKind.i64.wrap (j5 : Int) = j5 := IntWalk.i64_in _ (by omega)
        clear hb hd0 hd1 hd2 hd3 hd4 hd5 hj0 hx0 a0 hj1 hx1 a1 hj2 hx2 a2 hj3 hx3 a3 hj4 hx4 a4 hj5 hx5 a5
        go_upto_region 6 with fail
        go_cut [3] (fun s3 wx => ∃ blk, s3 = .slice (some ⟨blk, 0, none⟩) 6 6 ∧ wx.heap[blk]? = some (.cells (([(k0, c0, N0, .slice ba0 m0 bc0), (k1, c1, N1, .slice ba1 m1 bc1), (k2, c2, N2, .slice ba2 m2 bc2), (k3, c3, N3, .slice ba3 m3 bc3), (k4, c4, N4, .slice ba4 m4 bc4), (k5, c5, N5, .slice ba5 m5 bc5)] : List Act4).flatMap cell4).toArray 57 (0, 0)) ∧ Below wr.heap.size wr wx)
        case first =>
          go_region_held3 (fun w' => w'.cell? ⟨w.heap.size + 1, j0 * 4, none⟩ = some (.int .u8 k0) ∧ w'.cell? ⟨w.heap.size + 1, j0 * 4 + 1, none⟩ = some (.int .u8 c0) ∧ w'.cell? ⟨w.heap.size + 1, j0 * 4 + 2, none⟩ = some (.int .i64 N0) ∧ w'.cell? ⟨w.heap.size + 1, j0 * 4 + 3, none⟩ = some (.slice ba0 m0 bc0) ∧ w'.cell? ⟨w.heap.size + 1, j1 * 4, none⟩ = some (.int .u8 k1) ∧ w'.cell? ⟨w.heap.size + 1, j1 * 4 + 1, none⟩ = some (.int .u8 c1) ∧ w'.cell? ⟨w.heap.size + 1, j1 * 4 + 2, none⟩ = some (.int .i64 N1) ∧ w'.cell? ⟨w.heap.size + 1, j1 * 4 + 3, none⟩ = some (.slice ba1 m1 bc1) ∧ w'.cell? ⟨w.heap.size + 1, j2 * 4, none⟩ = some (.int .u8 k2) ∧ w'.cell? ⟨w.heap.size + 1, j2 * 4 + 1, none⟩ = some (.int .u8 c2) ∧ w'.cell? ⟨w.heap.size + 1, j2 * 4 + 2, none⟩ = some (.int .i64 N2) ∧ w'.cell? ⟨w.heap.size + 1, j2 * 4 + 3, none⟩ = some (.slice ba2 m2 bc2) ∧ w'.cell? ⟨w.heap.size + 1, j3 * 4, none⟩ = some (.int .u8 k3) ∧ w'.cell? ⟨w.heap.size + 1, j3 * 4 + 1, none⟩ = some (.int .u8 c3) ∧ w'.cell? ⟨w.heap.size + 1, j3 * 4 + 2, none⟩ = some (.int .i64 N3) ∧ w'.cell? ⟨w.heap.size + 1, j3 * 4 + 3, none⟩ = some (.slice ba3 m3 bc3) ∧ w'.cell? ⟨w.heap.size + 1, j4 * 4, none⟩ = some (.int .u8 k4) ∧ w'.cell? ⟨w.heap.size + 1, j4 * 4 + 1, none⟩ = some (.int .u8 c4) ∧ w'.cell? ⟨w.heap.size + 1, j4 * 4 + 2, none⟩ = some (.int .i64 N4) ∧ w'.cell? ⟨w.heap.size + 1, j4 * 4 + 3, none⟩ = some (.slice ba4 m4 bc4) ∧ w'.cell? ⟨w.heap.size + 1, j5 * 4, none⟩ = some (.int .u8 k5) ∧ w'.cell? ⟨w.heap.size + 1, j5 * 4 + 1, none⟩ = some (.int .u8 c5) ∧ w'.cell? ⟨w.heap.size + 1, j5 * 4 + 2, none⟩ = some (.int .i64 N5) ∧ w'.cell? ⟨w.heap.size + 1, j5 * 4 + 3, none⟩ = some (.slice ba5 m5 bc5))
            (first | exact ⟨cl00, cl01, cl02, cl03, cl10, cl11, cl12, cl13, cl20, cl21, cl22, cl23, cl30, cl31, cl32, cl33, cl40, cl41, cl42, cl43, cl50, cl51, cl52, cl53⟩ | (go_keep))
            (first | fail)
          go_wp2_with fail
          go_meet
          refine ⟨_, rfl, ?_, ?_⟩
          · first | exact nw | exact nw (w := World.drew _)
          · first | exact (balloc (Below.refl _ _) _).drew | exact balloc ((Below.refl _ _).drew) _
        case rest =>
          obtain ⟨blk, rfl, hblk, hbw⟩ := hcut
          have WC := Lib.hid (WR.out.trans (hbw.mono WR.out.size))
          have HACT := Lib.hid (show Acts 300 wc (.slice (some ⟨blk, 0, none⟩) 6 6) 6 from acts_of_flat (cap := 6) hblk (fun x hx => (HG.out x hx).next hbw))
          clear hblk hbw cl00 cl01 cl02 cl03 cl10 cl11 cl12 cl13 cl20 cl21 cl22 cl23 cl30 cl31 cl32 cl33 cl40 cl41 cl42 cl43 cl50 cl51 cl52 cl53 f0 t0 f1 t1 f2 t2 f3 t3 f4 t4 e1 e2 e3 e4 e5 g1 g2 g3 g4 b0 b0b y0 b1 b1b y1 b2 b2b y2 b3 b3b y3 b4 b4b y4 b5 b5b y5
          go_wp2_with (go_at_call 27; refine (does_true (by omega) (by omega) (by omega) (by omega) HACT.out (by decide) (by decide)).mono ?_; rintro e w5 ⟨rfl, hb⟩; have W5 := Lib.hid (WC.out.trans (hb.mono WC.out.size)); clear hb)
          have hk := HK.out; have hNN := HNN.out
          go_roundg (gk - 1)
          case rel => exact ⟨k + 1, by omega, by simp, W5.out⟩
          case measure => omega
      · have hc : (k : Int) % 5 = 1 ∨ (k : Int) % 5 = 2 ∨ (k : Int) % 5 = 3 ∨ (k : Int) % 5 = 4 := by omega
        clear h5
        rcases hc with h5' | h5' | h5' | h5'
        · have h5t : (k : Int).tmod 5 = 1 := by rw [Int.tmod_eq_emod_of_nonneg (by omega)]; exact h5'
          go_wp2_with fail
          have hk := HK.out; have hNN := HNN.out
          go_roundg (gk - 1)
          case rel => exact ⟨k + 1, by omega, by simp, WR.out⟩
          case measure => omega
        · have h5t : (k : Int).tmod 5 = 2 := by rw [Int.tmod_eq_emod_of_nonneg (by omega)]; exact h5'
          go_wp2_with fail
          have hk := HK.out; have hNN := HNN.out
          go_roundg (gk - 1)
          case rel => exact ⟨k + 1, by omega, by simp, WR.out⟩
          case measure => omega
        · have h5t : (k : Int).tmod 5 = 3 := by rw [Int.tmod_eq_emod_of_nonneg (by omega)]; exact h5'
          go_wp2_with fail
          have hk := HK.out; have hNN := HNN.out
          go_roundg (gk - 1)
          case rel => exact ⟨k + 1, by omega, by simp, WR.out⟩
          case measure => omega
        · have h5t : (k : Int).tmod 5 = 4 := by rw [Int.tmod_eq_emod_of_nonneg (by omega)]; exact h5'
          go_wp2_with fail
          have hk := HK.out; have hNN := HNN.out
          go_roundg (gk - 1)
          case rel => exact ⟨k + 1, by omega, by simp, WR.out⟩
          case measure => omega
    · obtain rfl : k = NN := by omega
      have hlt' : (k : Int) = 46656 := by have := HNN.out; omega
      clear hk hb hlt HK
      have WQ := Lib.hid (W1.out.trans (WR.out.mono N1))
      clear WR HE HS
      obtain ⟨wp, rfl⟩ : ∃ wp : World, wp = wr := ⟨_, rfl⟩
      obtain ⟨g1, rfl⟩ : ∃ g1 : Nat, g1 = gk := ⟨_, rfl⟩
      go_wp2_with fail
      clear hlt'
      go_loopg [4] 298 (fun gk x wr => ∃ s : Nat, x = .int .i64 s ∧ 2 ≤ s ∧ s ≤ 300 ∧ gk = 300 - s ∧ Below w.heap.size w wr)
      case atStart => exact ⟨2, rfl, by omega, by omega, rfl, WQ.out⟩
      case round =>
        obtain ⟨s, rfl, hs2, hs3, hgs, hb⟩ := hrel
        have HGS := Lib.hid hgs; have WS := Lib.hid hb
        clear hgs hb
        obtain ⟨ws, rfl⟩ : ∃ ws : World, ws = wr := ⟨_, rfl⟩
        obtain ⟨g2, rfl⟩ : ∃ g2 : Nat, g2 = gk := ⟨_, rfl⟩
        by_cases h256 : s ≤ 256
        · obtain ⟨s1, hs1⟩ : ∃ s1 : Nat, s1 = s + 1 := ⟨_, rfl⟩
          have es1 : (s : Int) + 1 = (s1 : Int) := by omega
          have HS1 := Lib.hid hs1
          clear hs1
          go_wp2_with fail
          try simp only [show decide ((s : Int) ≤ 256) = true from decide_eq_true (by omega)]
          go_loopg [90, 5] s1 (fun gk i v wr => ∃ (k : Nat) (L : List Act4), k + gk = s1 ∧ i = .int .i64 k ∧ L.length = k ∧ OwnA wr ws.heap.size v L ∧ (∀ x ∈ L, GoodN x) ∧ Below ws.heap.size ws wr)
          case atStart => exact ⟨0, [], by omega, rfl, rfl, OwnA.nil, (by intro x hx; cases hx), Below.refl _ _⟩
          case round =>
            obtain ⟨k, L, hk, rfl, hL, hO, hG, hb⟩ := hrel
            have HK := Lib.hid hk; have HL := Lib.hid hL; have HO := Lib.hid hO; have HG := Lib.hid hG; have WB := Lib.hid hb
            have hLb : L.length ≤ 300 := by have := HS1.out; omega
            have hsz := hb.size
            obtain ⟨sa, cap, hv, hcap⟩ := HO.out.le
            subst hv
            clear hk hL hO hG hb
            by_cases hlt : k < s1
            · go_wp2_with (at_builtin; refine wpList_append_own _ rfl _ _ 55 rfl ws.heap.size 57 i0 _ 4 40 Try.underlying55 hi hz0 hz1 hz2 rfl (by decide) (.slice sa L.length cap) L.length (L.flatMap cell4) rfl ((HO.out).alloc _) ⟨wr.heap.size, 0, none⟩ 1 1 [.int .u8 0, .int .u8 ((k : Int) % 256), .int .i64 0, .slice none 0 0] rfl rfl (cells_newk (w := wr) (cur := #[.int .u8 0, .int .u8 ((k : Int) % 256), .int .i64 0, .slice none 0 0]) (by first | rfl | simp)) (by simp [Value.oneCell']) (by unfold maxLen; omega) (by omega) (by first | omega | (simp; omega)) ?_; intro v4 w4 hown hgrow _; have HO4 := Lib.hid (OwnA.app (L := L) (N := [(0, ((k : Int) % 256), 0, .slice none 0 0)]) rfl rfl hown); have hgb := grownA_below (R := ws.heap.size) (w := (wr.alloc (.cells #[.int .u8 0, .int .u8 ((k : Int) % 256), .int .i64 0, .slice none 0 0] 57))) (by first | omega | (simp; omega)) ((HO.out).alloc _) hgrow; have WB4 := Lib.hid (WB.out.trans (Below.trans (ballo (Below.refl _ wr) (by first | omega | (simp; omega)) _) hgb));  clear hown hgrow hgb)
              have hk := HK.out
              go_roundg (gk - 1)
              case rel =>
                refine ⟨k + 1, L ++ [(0, (k : Int) % 256, 0, .slice none 0 0)], by omega, by simp, by rw [List.length_append, HL.out]; rfl, HO4.out, fun x hx => ?_, WB4.out⟩
                rcases List.mem_append.1 hx with hx | hx
                · exact HG.out x hx
                · rw [List.mem_singleton.1 hx]; exact ⟨by simp, by simp, by dsimp only; omega, by dsimp only; omega, rfl⟩
              case measure => omega
            · have hk := HK.out
              obtain rfl : k = s1 := by omega
              clear hk
              obtain ⟨wt, rfl⟩ : ∃ wt : World, wt = wr := ⟨_, rfl⟩
              obtain ⟨g3, rfl⟩ : ∃ g3 : Nat, g3 = gk := ⟨_, rfl⟩
              obtain ⟨h2, hh2⟩ : ∃ h2 : Nat, h2 = s / 2 := ⟨_, rfl⟩
              have e2 : (s : Int) / 2 = (h2 : Int) := by omega
              have hh2b : h2 ≤ 128 := by omega
              clear hh2
              go_wp2_with (at_builtin; refine wpList_append_own _ rfl _ _ 55 rfl ws.heap.size 57 i0 _ 4 40 Try.underlying55 hi hz0 hz1 hz2 rfl (by decide) (.slice sa L.length cap) L.length (L.flatMap cell4) rfl ((HO.out).alloc _) ⟨wt.heap.size, 0, none⟩ 2 2 [.int .u8 5, .int .u8 0, .int .i64 0, .slice none 0 0, .int .u8 7, .int .u8 9, .int .i64 0, .slice none 0 0] rfl rfl (cells_newk (w := wt) (cur := #[.int .u8 5, .int .u8 0, .int .i64 0, .slice none 0 0, .int .u8 7, .int .u8 9, .int .i64 0, .slice none 0 0]) (by first | rfl | simp)) (by simp [Value.oneCell']) (by unfold maxLen; omega) (by omega) (by first | omega | (simp; omega)) ?_; intro v4 w4 hown hgrow _; have HO4 := Lib.hid (OwnA.app (L := L) (N := [(5, 0, 0, .slice none 0 0), (7, 9, 0, .slice none 0 0)]) rfl rfl hown); have hgb := grownA_below (R := ws.heap.size) (w := (wt.alloc (.cells #[.int .u8 5, .int .u8 0, .int .i64 0, .slice none 0 0, .int .u8 7, .int .u8 9, .int .i64 0, .slice none 0 0] 57))) (by first | omega | (simp; omega)) ((HO.out).alloc _) hgrow; have WB4 := Lib.hid (WB.out.trans (Below.trans (ballo (Below.refl _ wt) (by first | omega | (simp; omega)) _) hgb));  clear hown hgrow hgb)
              have HL4 := Lib.hid (show (L ++ [(5, 0, 0, .slice none 0 0), (7, 9, 0, .slice none 0 0)] : List Act4).length = s + 3 by rw [List.length_append, HL.out, HS1.out]; rfl)
              have HG4 := Lib.hid (show ∀ x ∈ (L ++ [(5, 0, 0, .slice none 0 0), (7, 9, 0, .slice none 0 0)] : List Act4), GoodN x from fun x hx => by
                rcases List.mem_append.1 hx with hx | hx
                · exact HG.out x hx
                · simp only [List.mem_cons, List.not_mem_nil, or_false] at hx
                  rcases hx with rfl | rfl <;> exact ⟨by simp, by simp, by simp, by simp, rfl⟩)
              go_loopg [108, 5] (h2 + 1) (fun gk i v wr => ∃ (k : Nat) (L : List Act4), k + gk = h2 + 1 ∧ i = .int .i64 k ∧ L.length = s + 3 + k ∧ OwnA wr ws.heap.size v L ∧ (∀ x ∈ L, GoodN x) ∧ Below ws.heap.size ws wr)
              case atStart => exact ⟨0, _, by omega, rfl, HL4.out, HO4.out, HG4.out, WB4.out⟩
              case round =>
                clear HO HO4 HG4 HL4 HL HG WB WB4 hcap hLb hsz
                obtain ⟨k, L, hk, rfl, hL, hO, hG, hb⟩ := hrel
                have HK := Lib.hid hk; have HL := Lib.hid hL; have HO := Lib.hid hO; have HG := Lib.hid hG; have WB := Lib.hid hb
                have hLb : L.length ≤ 500 := by omega
                have hsz := hb.size
                obtain ⟨sa, cap, hv, hcap⟩ := HO.out.le
                subst hv
                clear hk hL hO hG hb
                by_cases hlt : k < h2 + 1
                · go_wp2_with (at_builtin; refine wpList_append_own _ rfl _ _ 55 rfl ws.heap.size 57 i0 _ 4 40 Try.underlying55 hi hz0 hz1 hz2 rfl (by decide) (.slice sa L.length cap) L.length (L.flatMap cell4) rfl ((HO.out).alloc _) ⟨wr.heap.size, 0, none⟩ 1 1 [.int .u8 0, .int .u8 ((k : Int) * 3 % 256), .int .i64 0, .slice none 0 0] rfl rfl (cells_newk (w := wr) (cur := #[.int .u8 0, .int .u8 ((k : Int) * 3 % 256), .int .i64 0, .slice none 0 0]) (by first | rfl | simp)) (by simp [Value.oneCell']) (by unfold maxLen; omega) (by omega) (by first | omega | (simp; omega)) ?_; intro v4 w4 hown hgrow _; have HO4 := Lib.hid (OwnA.app (L := L) (N := [(0, ((k : Int) * 3 % 256), 0, .slice none 0 0)]) rfl rfl hown); have hgb := grownA_below (R := ws.heap.size) (w := (wr.alloc (.cells #[.int .u8 0, .int .u8 ((k : Int) * 3 % 256), .int .i64 0, .slice none 0 0] 57))) (by first | omega | (simp; omega)) ((HO.out).alloc _) hgrow; have WB4 := Lib.hid (WB.out.trans (Below.trans (ballo (Below.refl _ wr) (by first | omega | (simp; omega)) _) hgb));  clear hown hgrow hgb)
                  have hk := HK.out
                  go_roundg (gk - 1)
                  case rel =>
                    refine ⟨k + 1, L ++ [(0, (k : Int) * 3 % 256, 0, .slice none 0 0)], by omega, by simp, by rw [List.length_append, HL.out]; rfl, HO4.out, fun x hx => ?_, WB4.out⟩
                    rcases List.mem_append.1 hx with hx | hx
                    · exact HG.out x hx
                    · rw [List.mem_singleton.1 hx]; exact ⟨by simp, by simp, by dsimp only; omega, by dsimp only; omega, rfl⟩
                  case measure => omega
                · clear HK
                  go_wp2_with (first | (at_builtin; refine wpList_append_own _ rfl _ _ 55 rfl ws.heap.size 57 i0 _ 4 40 Try.underlying55 hi hz0 hz1 hz2 rfl (by decide) (.slice sa L.length cap) L.length (L.flatMap cell4) rfl (((HO.out).alloc _).alloc _) ⟨wr.heap.size + 1, 0, none⟩ 3 3 [.int .u8 6, .int .u8 0, .int .i64 1, .slice (some ⟨wr.heap.size, 0, none⟩) 2 2, .int .u8 4, .int .u8 0, .int .i64 (s : Int), .slice none 0 0, .int .u8 5, .int .u8 0, .int .i64 0, .slice none 0 0] rfl rfl (cells_newk (w := (wr.alloc (.cells #[.int .u8 0, .int .u8 3] 5))) (cur := #[.int .u8 6, .int .u8 0, .int .i64 1, .slice (some ⟨wr.heap.size, 0, none⟩) 2 2, .int .u8 4, .int .u8 0, .int .i64 (s : Int), .slice none 0 0, .int .u8 5, .int .u8 0, .int .i64 0, .slice none 0 0]) (by first | rfl | simp)) (by simp [Value.oneCell']) (by unfold maxLen; omega) (by omega) (by first | omega | (simp; omega)) ?_; intro v4 w4 hown hgrow _; have HO4 := Lib.hid (OwnA.app (L := L) (N := [(6, 0, 1, .slice (some ⟨wr.heap.size, 0, none⟩) 2 2), (4, 0, (s : Int), .slice none 0 0), (5, 0, 0, .slice none 0 0)]) rfl rfl hown); have hgb := grownA_below (R := ws.heap.size) (w := ((wr.alloc (.cells #[.int .u8 0, .int .u8 3] 5)).alloc (.cells #[.int .u8 6, .int .u8 0, .int .i64 1, .slice (some ⟨wr.heap.size, 0, none⟩) 2 2, .int .u8 4, .int .u8 0, .int .i64 (s : Int), .slice none 0 0, .int .u8 5, .int .u8 0, .int .i64 0, .slice none 0 0] 57))) (by first | omega | (simp; omega)) (((HO.out).alloc _).alloc _) hgrow; have WB4 := Lib.hid (WB.out.trans (Below.trans (ballo (ballo (Below.refl _ wr) (by first | omega | (simp; omega)) _) (by first | omega | (simp; omega)) _) hgb)); have hbb : w4.heap[wr.heap.size]? = some (.cells #[.int .u8 0, .int .u8 3] 5) := (hgrow.block _ (by first | omega | (simp; omega)) (fun e => by have := (HO.out.own_lt e.symm).2; omega)).trans (al nw); have HL5 := Lib.hid (show (L ++ [(6, 0, 1, .slice (some ⟨wr.heap.size, 0, none⟩) 2 2), (4, 0, (s : Int), .slice none 0 0), (5, 0, 0, .slice none 0 0)] : List Act4).length ≤ 600 by rw [List.length_append]; simp; omega); have HACT := Lib.hid (HO4.out.acts (M := 300) (fun x hx => by
                    rcases List.mem_append.1 hx with hx | hx
                    · exact (HG.out x hx).good
                    · simp only [List.mem_cons, List.not_mem_nil, or_false] at hx
                      rcases hx with rfl | rfl | rfl
                      · exact ⟨by simp, by simp, by simp, by simp, [0, 3], reads_ab hbb, fun n c e => by simp at e, by simp, fun x hx => by simp at hx; omega⟩
                      · exact good_nil (by decide) (by decide) (by decide) (by decide)
                      · exact good_nil (by decide) (by decide) (by decide) (by decide))); clear hbb; clear hown hgrow hgb) | (go_at_call 27; refine (does_true (by omega) (by omega) (by omega) (by omega) HACT.out (by decide) (by have := HL5.out; omega)).mono ?_; rintro e w5 ⟨rfl, hb⟩; have W5 := Lib.hid (bnext (WS.out.trans (WB4.out.mono WS.out.size)) hb); clear hb))
                  have hgs := HGS.out
                  have e20 : (s : Int) / 20 = ((s / 20 : Nat) : Int) := by omega
                  go_roundg (300 - (s + (1 + s / 20)))
                  case rel => exact ⟨s + (1 + s / 20), by push_cast; rfl, by omega, by omega, rfl, W5.out⟩
                  case measure => omega
        · obtain ⟨wv, rfl⟩ : ∃ wv : World, wv = ws := ⟨_, rfl⟩
          obtain ⟨sb, hsb⟩ : ∃ sb : Int, sb = (s : Int) := ⟨_, rfl⟩
          have hsb2 : ¬ sb ≤ 256 := by omega
          rw [← hsb]
          clear hs2 hs3 h256 HGS hsb
          go_wp2_with fail
          clear hsb2
          obtain ⟨wa, hwa⟩ : ∃ wa, wa = wv.alloc (.cells #[.int .i64 (-9223372036854775808), .int .i64 (-1), .int .i64 0, .int .i64 1, .int .i64 2, .int .i64 256, .int .i64 257, .int .i64 281474976710654, .int .i64 281474976710655, .int .i64 281474976710656, .int .i64 281474976710657, .int .i64 9223372036854775807] 3) := ⟨_, rfl⟩
          have HI := Lib.hid (show wa.heap[wv.heap.size]? = some (.cells #[.int .i64 (-9223372036854775808), .int .i64 (-1), .int .i64 0, .int .i64 1, .int .i64 2, .int .i64 256, .int .i64 257, .int .i64 281474976710654, .int .i64 281474976710655, .int .i64 281474976710656, .int .i64 281474976710657, .int .i64 9223372036854775807] 3) by rw [hwa]; exact nw)
          have WA := Lib.hid (show Below w.heap.size w wa by rw [hwa]; exact balloc WS.out _)
          rw [← hwa]
          clear hwa
          go_loopg [136] 12 (fun gk i wr => ∃ k : Nat, k + gk = 12 ∧ i = .int .i64 k ∧ Below wa.heap.size wa wr)
          case atStart => exact ⟨0, by omega, rfl, Below.refl _ _⟩
          case round =>
            obtain ⟨k, hk, rfl, hb⟩ := hrel
            have HK := Lib.hid hk; have WB := Lib.hid hb
            by_cases hlt : k < 12
            · obtain ⟨x, hx0, hx1, hcx⟩ := I12_at (carry hb HI.out) k hlt
              have WW := Lib.hid (WA.out.trans (hb.mono WA.out.size))
              have HACT := Lib.hid (show Acts 300 ((wr.alloc (.cells #[.int .u8 2] 5)).alloc (.cells #[.int .u8 0, .int .u8 1, .int .i64 0, .slice none 0 0, .int .u8 0, .int .u8 2, .int .i64 0, .slice none 0 0, .int .u8 0, .int .u8 3, .int .i64 0, .slice none 0 0, .int .u8 4, .int .u8 0, .int .i64 x, .slice none 0 0, .int .u8 6, .int .u8 0, .int .i64 x, .slice none 0 0, .int .u8 6, .int .u8 0, .int .i64 x, .slice (some ⟨wr.heap.size, 0, none⟩) 1 1, .int .u8 5, .int .u8 0, .int .i64 0, .slice none 0 0, .int .u8 0, .int .u8 4, .int .i64 0, .slice none 0 0] 57)) (.slice (some ⟨wr.heap.size + 1, 0, none⟩) 8 8) 8 from acts_of_flat (cap := 8) (L := [(0, 1, 0, .slice none 0 0), (0, 2, 0, .slice none 0 0), (0, 3, 0, .slice none 0 0), (4, 0, x, .slice none 0 0), (6, 0, x, .slice none 0 0), (6, 0, x, .slice (some ⟨wr.heap.size, 0, none⟩) 1 1), (5, 0, 0, .slice none 0 0), (0, 4, 0, .slice none 0 0)]) (nwk (w := wr.alloc (.cells #[.int .u8 2] 5)) (o := .cells #[.int .u8 0, .int .u8 1, .int .i64 0, .slice none 0 0, .int .u8 0, .int .u8 2, .int .i64 0, .slice none 0 0, .int .u8 0, .int .u8 3, .int .i64 0, .slice none 0 0, .int .u8 4, .int .u8 0, .int .i64 x, .slice none 0 0, .int .u8 6, .int .u8 0, .int .i64 x, .slice none 0 0, .int .u8 6, .int .u8 0, .int .i64 x, .slice (some ⟨wr.heap.size, 0, none⟩) 1 1, .int .u8 5, .int .u8 0, .int .i64 0, .slice none 0 0, .int .u8 0, .int .u8 4, .int .i64 0, .slice none 0 0] 57) (by simp)) (fun y hy => by
                simp only [List.mem_cons, List.not_mem_nil, or_false] at hy
                rcases hy with rfl | rfl | rfl | rfl | rfl | rfl | rfl | rfl
                · exact good_nil (by decide) (by decide) (by decide) (by decide)
                · exact good_nil (by decide) (by decide) (by decide) (by decide)
                · exact good_nil (by decide) (by decide) (by decide) (by decide)
                · exact good_nil (by decide) (by decide) (by decide) (by decide)
                · exact good_nil (by decide) (by decide) (by decide) (by decide)
                · exact ⟨by simp, by simp, by simp, by simp, [2], reads_one.next (balloc (Below.refl _ _) _), fun n c e => by simp at e, by simp, fun x hx => by simp at hx; omega⟩
                · exact good_nil (by decide) (by decide) (by decide) (by decide)
                · exact good_nil (by decide) (by decide) (by decide) (by decide)))
              clear hk hb
              go_upto_region 32 with fail
              have WK := Lib.hid (show Below wa.heap.size wa ((wr.alloc (.cells #[.int .u8 2] 5)).alloc (.cells #[.int .u8 0, .int .u8 1, .int .i64 0, .slice none 0 0, .int .u8 0, .int .u8 2, .int .i64 0, .slice none 0 0, .int .u8 0, .int .u8 3, .int .i64 0, .slice none 0 0, .int .u8 4, .int .u8 0, .int .i64 x, .slice none 0 0, .int .u8 6, .int .u8 0, .int .i64 x, .slice none 0 0, .int .u8 6, .int .u8 0, .int .i64 x, .slice (some ⟨wr.heap.size, 0, none⟩) 1 1, .int .u8 5, .int .u8 0, .int .i64 0, .slice none 0 0, .int .u8 0, .int .u8 4, .int .i64 0, .slice none 0 0] 57)) from balloc (balloc WB.out _) _)
              obtain ⟨wk, hwk⟩ : ∃ wk, wk = (wr.alloc (.cells #[.int .u8 2] 5)).alloc (.cells #[.int .u8 0, .int .u8 1, .int .i64 0, .slice none 0 0, .int .u8 0, .int .u8 2, .int .i64 0, .slice none 0 0, .int .u8 0, .int .u8 3, .int .i64 0, .slice none 0 0, .int .u8 4, .int .u8 0, .int .i64 x, .slice none 0 0, .int .u8 6, .int .u8 0, .int .i64 x, .slice none 0 0, .int .u8 6, .int .u8 0, .int .i64 x, .slice (some ⟨wr.heap.size, 0, none⟩) 1 1, .int .u8 5, .int .u8 0, .int .i64 0, .slice none 0 0, .int .u8 0, .int .u8 4, .int .i64 0, .slice none 0 0] 57) := ⟨_, rfl⟩
              rw [← hwk] at HACT WK ⊢
              clear hwk hcx
              have HB := Lib.hid (Below.refl wk.heap.size wk)
              go_wp2_with (go_at_call 27; refine (does_true (by omega) (by omega) (by omega) (by omega) (HACT.out.next HB.out) (by decide) (by decide)).mono ?_; rintro e w5 ⟨rfl, hb⟩; replace HB := Lib.hid (bnext HB.out hb); clear hb)
              have W7 := Lib.hid (bnext WK.out HB.out)
              have hk := HK.out
              go_roundg (gk - 1)
              case rel => exact ⟨k + 1, by omega, by simp, W7.out⟩
              case measure => omega
            · obtain rfl : k = 12 := by omega
              have WW := Lib.hid (WA.out.trans (hb.mono WA.out.size))
              clear hk hb HK WB WA HI
              obtain ⟨wz, rfl⟩ : ∃ wz : World, wz = wr := ⟨_, rfl⟩
              obtain ⟨g4, rfl⟩ : ∃ g4 : Nat, g4 = gk := ⟨_, rfl⟩
              have hz61 := run_zero61
              obtain ⟨CZ, hCZ⟩ : ∃ CZ, CZ = bufCells (List.replicate 256 0) 0 0 0 0 := ⟨_, rfl⟩
              simp only [← hCZ] at hz61
              have HCZ := Lib.hid hCZ
              clear hCZ
              have hbox := run_box_buf CZ
              go_wp2_with fail
              clear hz61 hbox
              obtain ⟨wn, hwn⟩ : ∃ wn, wn = (wz.alloc (.cells CZ 61)).alloc (.cells #[.pointer none, .pointer (some ⟨wz.heap.size, 0, none⟩)] 25) := ⟨_, rfl⟩
              have HP := Lib.hid (show wn.heap[wz.heap.size + 1]? = some (.cells #[.pointer none, .pointer (some ⟨wz.heap.size, 0, none⟩)] 25) by rw [hwn]; exact nwk (by simp))
              have HZ := Lib.hid (show NB wn (at0 wz.heap.size) by rw [hwn, HCZ.out]; exact (nb_zero (bufAt_zero wz)).next (balloc (Below.refl _ _) _))
              have WN := Lib.hid (show Below w.heap.size w wn by rw [hwn]; exact balloc (balloc WW.out _) _)
              rw [← hwn]
              clear hwn
              go_loopg [174] 2 (fun gk i wr => ∃ k : Nat, k + gk = 2 ∧ i = .int .i64 k ∧ Below wn.heap.size wn wr)
              case atStart => exact ⟨0, by omega, rfl, Below.refl _ _⟩
              case round =>
                obtain ⟨k, hk, rfl, hb⟩ := hrel
                have HK := Lib.hid hk; have WB := Lib.hid hb
                have hp : k < 2 → ∃ p, wr.cell? ⟨wz.heap.size + 1, k, none⟩ = some (.pointer p) ∧ NB wr (.pointer p) := fun h => by
                  have hh := carry hb HP.out
                  match k, h with
                  | 0, _ => exact ⟨_, by simp [World.cell?, hh], nb_nil wr⟩
                  | 1, _ => exact ⟨_, by simp [World.cell?, hh], HZ.out.next hb⟩
                clear hk hb
                by_cases hlt : k < 2
                · obtain ⟨p, hcp, hnb⟩ := hp hlt
                  have HN := Lib.hid hnb
                  clear hnb hp
                  go_wp2_with (first
                    | (go_at_call 13; refine (nb_take HN.out).mono ?_; rintro e w5 ⟨rfl, hb⟩; have N5 := Lib.hid (HN.out.next hb); have W5 := Lib.hid (bnext WB.out hb); clear hb)
                    | (go_at_call 16; refine (nb_disc (N5.out.next (balloc (Below.refl _ w5) (.cells #[.int .i64 0, .int .i64 0] 31)))).mono ?_; rintro e w6 ⟨rfl, hb⟩; have T5 := Lib.hid (carry hb (nw (w := w5) (o := .cells #[.int .i64 0, .int .i64 0] 31))); have hb2 := bnext (balloc (Below.refl _ w5) (.cells #[.int .i64 0, .int .i64 0] 31)) hb; have N6 := Lib.hid (N5.out.next hb2); have W6 := Lib.hid (bnext W5.out hb2); clear hb hb2)
                    | (go_at_call 22; refine (nb_at (N6.out.next (balloc (Below.refl _ w6) (.cells #[.int .i64 0, .int .i64 0] 31)))).mono ?_; rintro e w7 ⟨rfl, hb⟩; have T6 := Lib.hid (carry hb (nw (w := w6) (o := .cells #[.int .i64 0, .int .i64 0] 31))); have hb2 := bnext (balloc (Below.refl _ w6) (.cells #[.int .i64 0, .int .i64 0] 31)) hb; have U5 := Lib.hid (carry hb2 T5.out); have N7 := Lib.hid (N6.out.next hb2); have W7 := Lib.hid (bnext W6.out hb2); clear hb hb2))
                  have Q17 := Lib.hid (since_q (w := w7) fun w' hb => nb_put (N7.out.next hb))
                  have Q18 := Lib.hid (since_q (w := w7) fun w' hb => nb_part (N7.out.next hb))
                  have Q15 := Lib.hid (since_q (w := w7) fun w' hb => nb_bytes (N7.out.next hb))
                  have Q14 := Lib.hid (since_q (w := w7) fun w' hb => nb_full (N7.out.next hb))
                  have Q21 := Lib.hid (since_q (w := w7) fun w' hb => nb_size (N7.out.next hb))
                  have Q23 := Lib.hid (since_q (w := w7) fun w' hb => nb_find (N7.out.next hb))
                  have Q26 := Lib.hid (since_q (w := w7) fun w' hb => nb_copy (N7.out.next hb))
                  have s0 : ∀ d : Since w7, d.val.cell? ⟨w5.heap.size, 0, none⟩ = some (.int .i64 0) := fun d => (cell_two (carry d.property U5.out)).1
                  have s1 : ∀ d : Since w7, d.val.cell? ⟨w5.heap.size, 1, none⟩ = some (.int .i64 0) := fun d => (cell_two (carry d.property U5.out)).2.1
                  have s2 : ∀ d : Since w7, d.val.cell? ⟨w6.heap.size, 0, none⟩ = some (.int .i64 0) := fun d => (cell_two (carry d.property T6.out)).1
                  have s3 : ∀ d : Since w7, d.val.cell? ⟨w6.heap.size, 1, none⟩ = some (.int .i64 0) := fun d => (cell_two (carry d.property T6.out)).2.1
                  clear hcp
                  refine wp_region_since (by kernel_rfl) (by kernel_rfl) ?_
                  repeat (go_big_quiet_step (first | with_reducible exact Q17.out _ | with_reducible exact Q18.out _ | with_reducible exact Q15.out _ | with_reducible exact Q14.out _ | with_reducible exact Q21.out _ | with_reducible exact Q23.out _ | with_reducible exact Q26.out _))
                  refine wpQuiet_nil ?_
                  rintro w' ⟨d, rfl⟩
                  have W8 := Lib.hid (bnext W7.out d.property)
                  generalize d.val = w8 at *
                  clear s0 s1 s2 s3
                  go_wp2_with fail
                  have hk := HK.out
                  go_roundg (gk - 1)
                  case rel => exact ⟨k + 1, by omega, by simp, W8.out⟩
                  case measure => omega
                · have hk := HK.out
                  have WX := Lib.hid (WN.out.trans (WB.out.mono WN.out.size))
                  obtain rfl : k = 2 := by omega
                  clear hk hp
                  go_wp2_with (go_at_call 10; refine (awake_true _).mono ?_; rintro e w9 ⟨rfl, hb⟩; have W9 := Lib.hid (bnext WX.out hb); clear hb)
                  go_ret
                  exact ⟨rfl, W9.out⟩

end Go.Proofs.Ytogdhmbdackeeaa
