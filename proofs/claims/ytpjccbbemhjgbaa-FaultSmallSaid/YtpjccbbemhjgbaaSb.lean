import Derived.Test.YtpjccbbemhjgbaaSa
import Derived.IntWalk
import Derived.Deep.RegionHeld3
namespace Go.Proofs.Ytpjccbbemhjgbaa
open Go.RowKit
set_option linter.unusedVariables false

theorem r3_sub {W : World} {b : Nat} {xs : List Stp} {ty : TypeId} {f : Nat × Nat} (h : W.heap[b]? = some (.cells (xs.flatMap cell3).toArray ty f)) (i m c : Nat) (hm : i + m ≤ xs.length) : Reads3 W (.slice (some ⟨b, i * 3, none⟩) m c) ((xs.drop i).take m) := by
  have hl : ((xs.drop i).take m).length = m := by simp; omega
  refine ⟨_, c, by rw [hl], fun j x hj => ⟨b, i * 3, rfl, ?_⟩⟩
  have hjm : j < m := by have := (List.getElem?_eq_some_iff.1 hj).1; omega
  have hx : xs[i + j]? = some x := by rw [List.getElem?_take_of_lt hjm, List.getElem?_drop] at hj; exact hj
  obtain ⟨e0, e1, e2⟩ := cells3_at xs (i + j) x hx
  rw [show (i + j) * 3 = i * 3 + j * 3 by omega] at e0 e1 e2
  simp only [World.cell?, h, List.getElem?_toArray]
  exact ⟨e0, e1, e2⟩
theorem ss_four {W : World} {b : Nat} {s0 s1 s2 s3 : Value} {x0 x1 x2 x3 : List Stp} (h : W.heap[b]? = some (.cells #[s0, s1, s2, s3] 43 (0, 0))) (r0 : Reads3 W s0 x0) (r1 : Reads3 W s1 x1) (r2 : Reads3 W s2 x2) (r3 : Reads3 W s3 x3) :
    ReadsSS W (.slice (some ⟨b, 0, none⟩) 4 4) [x0, x1, x2, x3] := by
  refine ⟨_, 4, rfl, fun j xs hj => ⟨b, 0, ?_⟩⟩
  rcases j with _ | _ | _ | _ | j
  · obtain rfl : x0 = xs := by simpa using hj
    exact ⟨s0, rfl, by simp [World.cell?, h], r0⟩
  · obtain rfl : x1 = xs := by simpa using hj
    exact ⟨s1, rfl, by simp [World.cell?, h], r1⟩
  · obtain rfl : x2 = xs := by simpa using hj
    exact ⟨s2, rfl, by simp [World.cell?, h], r2⟩
  · obtain rfl : x3 = xs := by simpa using hj
    exact ⟨s3, rfl, by simp [World.cell?, h], r3⟩
  · simp at hj
theorem long_out (w : World) : Calls Try.prog 11 #[.func (.func 28) #[] #[]] w fun e w' => e = .returned (.iface 23 (.agg #[.int .u8 2, .int .i64 1048577])) ∧ Below w.heap.size w w' := by
  obtain ⟨N, hN⟩ : ∃ N : Nat, N = 1048577 := ⟨_, rfl⟩
  refine (outside_thrown ent28 23 (fun x => x = .agg #[.int .u8 2, .int .i64 N]) (fun w0 hb => (long_is N hN w0).mono ?_)).mono ?_
  · rintro e w1 ⟨rfl, hb⟩
    exact ⟨⟨_, [], rfl, rfl, rfl⟩, hb⟩
  · rintro e w1 ⟨⟨x, rfl, rfl⟩, hb⟩
    refine ⟨?_, hb⟩
    rw [show ((N : Nat) : Int) = 1048577 by rw [hN]; rfl]

def E8 : List Stp := [(1, 1, 0), (1, 3, 0), (2, 0, 0), (3, 2, 1), (3, 2, 2), (4, 2, 7), (5, 1, 0), (4, 3, 0)]

set_option maxRecDepth 100000 in
set_option maxHeartbeats 4000000 in
theorem small_true (w : World) : Calls Try.prog 6 #[] w fun e w' => e = .returned (.bool true) ∧ Below w.heap.size w w' := by
  go_enter Try.func6, Try.ntmps6
  go_wp2_with fail
  obtain ⟨w1, hw1⟩ : ∃ w1, w1 = w.alloc (.cells (E8.flatMap cell3).toArray 46) := ⟨_, rfl⟩
  have HE := Lib.hid (show w1.heap[w.heap.size]? = some (.cells (E8.flatMap cell3).toArray 46) by rw [hw1]; exact nw)
  have W1 := Lib.hid (show Below w.heap.size w w1 by rw [hw1]; exact balloc (Below.refl _ _) _)
  have h1 : w1 = w.alloc (.cells #[.int .u8 1, .int .i64 1, .int .i64 0, .int .u8 1, .int .i64 3, .int .i64 0, .int .u8 2, .int .i64 0, .int .i64 0, .int .u8 3, .int .i64 2, .int .i64 1, .int .u8 3, .int .i64 2, .int .i64 2, .int .u8 4, .int .i64 2, .int .i64 7, .int .u8 5, .int .i64 1, .int .i64 0, .int .u8 4, .int .i64 3, .int .i64 0] 46) := hw1
  rw [← h1]
  clear h1 hw1
  have N1 := W1.out.size
  go_loopg [39] 512 (fun gk i wr => ∃ k : Nat, k + gk = 512 ∧ i = .int .i64 k ∧ Below w1.heap.size w1 wr)
  case atStart => exact ⟨0, by omega, rfl, Below.refl _ _⟩
  case round =>
    obtain ⟨k, hk, rfl, hb⟩ := hrel
    have HK := Lib.hid hk; have WR := Lib.hid hb
    by_cases hlt : k < 512
    · obtain ⟨j0, hj0⟩ : ∃ j0, j0 = k % 8 := ⟨_, rfl⟩
      obtain ⟨d1, hd1⟩ : ∃ d1, d1 = k / 8 := ⟨_, rfl⟩
      obtain ⟨j1, hj1⟩ : ∃ j1, j1 = d1 % 8 := ⟨_, rfl⟩
      obtain ⟨j2, hj2⟩ : ∃ j2, j2 = k / 64 := ⟨_, rfl⟩
      have a0 : j0 < 8 := by omega
      have a1 : j1 < 8 := by omega
      have a2 : j2 < 8 := by omega
      have HEr := Lib.hid (show Reads3 wr (.slice (some ⟨w.heap.size, 0, none⟩) 8 8) E8 from by
        have := r3_sub (carry hb HE.out) 0 8 8 (by decide)
        exact this)
      have ex : ∀ j, j < 8 → ∃ x : Stp, E8[j]? = some x ∧ 0 ≤ x.1 ∧ x.1 ≤ 255 ∧ -9223372036854775808 ≤ x.2.1 ∧ x.2.1 ≤ 9223372036854775807 ∧ -9223372036854775808 ≤ x.2.2 ∧ x.2.2 ≤ 9223372036854775807 := by
        intro j hj
        have hmem : ∀ x ∈ E8, 0 ≤ x.1 ∧ x.1 ≤ 255 ∧ -9223372036854775808 ≤ x.2.1 ∧ x.2.1 ≤ 9223372036854775807 ∧ -9223372036854775808 ≤ x.2.2 ∧ x.2.2 ≤ 9223372036854775807 := by decide
        have hx : E8[j]? = some (E8[j]'(by simpa [E8] using hj)) := List.getElem?_eq_getElem _
        exact ⟨_, hx, hmem _ (List.mem_of_getElem? hx)⟩
      obtain ⟨⟨p0, p1, p2⟩, hx0, wx0⟩ := ex j0 a0
      obtain ⟨⟨q0, q1, q2⟩, hx1, wx1⟩ := ex j1 a1
      obtain ⟨⟨r0, r1, r2⟩, hx2, wx2⟩ := ex j2 a2
      have HWX := Lib.hid (show WfS [(p0, p1, p2), (q0, q1, q2), (r0, r1, r2)] from by
        intro x hx
        simp only [List.mem_cons, List.not_mem_nil, or_false] at hx
        rcases hx with rfl | rfl | rfl
        · exact wx0
        · exact wx1
        · exact wx2)
      have c0 := HEr.out.at (Below.refl _ _) hx0
      have c1 := HEr.out.at (Below.refl _ _) hx1
      have c2 := HEr.out.at (Below.refl _ _) hx2
      obtain ⟨pb, po, c, e, _, u0, u1, u2⟩ := c0
      simp only [Value.slice.injEq, Option.some.injEq, Addr.mk.injEq, and_true] at e
      obtain ⟨⟨rfl, rfl⟩, hjunk⟩ := e
      clear hjunk
      obtain ⟨pb, po, c, e, _, u3, u4, u5⟩ := c1
      simp only [Value.slice.injEq, Option.some.injEq, Addr.mk.injEq, and_true] at e
      obtain ⟨⟨rfl, rfl⟩, hjunk⟩ := e
      clear hjunk
      obtain ⟨pb, po, c, e, _, u6, u7, u8⟩ := c2
      simp only [Value.slice.injEq, Option.some.injEq, Addr.mk.injEq, and_true] at e
      obtain ⟨⟨rfl, rfl⟩, hjunk⟩ := e
      clear hjunk
      dsimp only at u0 u1 u2 u3 u4 u5 u6 u7 u8
      rw [Nat.zero_add] at u0 u1 u2 u3 u4 u5 u6 u7 u8
      have f0 : (k : Int) % 8 = (j0 : Int) := by omega
      have f1 : (k : Int) / 8 = (d1 : Int) := by omega
      have f2 : (d1 : Int) % 8 = (j1 : Int) := by omega
      have f3 : (k : Int) / 64 = (j2 : Int) := by omega
      have g0 : IntKind.i64.wrap (j0 : Int) = j0 := IntWalk.i64_in _ (by omega)
      have g1 : IntKind.i64.wrap (d1 : Int) = d1 := IntWalk.i64_in _ (by omega)
      have g2 : IntKind.i64.wrap (j1 : Int) = j1 := IntWalk.i64_in _ (by omega)
      have g3 : IntKind.i64.wrap (j2 : Int) = j2 := IntWalk.i64_in _ (by omega)
      have t0 : (k : Int).tmod 8 = (j0 : Int) := by rw [Int.tmod_eq_emod_of_nonneg (by omega)]; exact f0
      have t2 : (d1 : Int).tmod 8 = (j1 : Int) := by rw [Int.tmod_eq_emod_of_nonneg (by omega)]; exact f2
      have b0 : (0 : Int) ≤ j0 := by omega
      have b1 : (0 : Int) ≤ j1 := by omega
      have b2 : (0 : Int) ≤ j2 := by omega
      have b3 : (j0 : Int) < 8 := by omega
      have b4 : (j1 : Int) < 8 := by omega
      have b5 : (j2 : Int) < 8 := by omega
      clear hk hb hj0 hd1 hj1 hj2 hx0 hx1 hx2 wx0 wx1 wx2 ex
      go_upto_region 5 with fail
      go_cut [3] (fun s3 wx => ∃ blk, s3 = .slice (some ⟨blk, 0, none⟩) 3 3 ∧ wx.heap[blk]? = some (.cells (([(p0, p1, p2), (q0, q1, q2), (r0, r1, r2)] : List Stp).flatMap cell3).toArray 46 (0, 0)) ∧ Below wr.heap.size wr wx)
      case first =>
        go_region_held3 (fun w' => w'.cell? ⟨w.heap.size, j0 * 3, none⟩ = some (.int .u8 p0) ∧ w'.cell? ⟨w.heap.size, j0 * 3 + 1, none⟩ = some (.int .i64 p1) ∧ w'.cell? ⟨w.heap.size, j0 * 3 + 2, none⟩ = some (.int .i64 p2) ∧
            w'.cell? ⟨w.heap.size, j1 * 3, none⟩ = some (.int .u8 q0) ∧ w'.cell? ⟨w.heap.size, j1 * 3 + 1, none⟩ = some (.int .i64 q1) ∧ w'.cell? ⟨w.heap.size, j1 * 3 + 2, none⟩ = some (.int .i64 q2) ∧
            w'.cell? ⟨w.heap.size, j2 * 3, none⟩ = some (.int .u8 r0) ∧ w'.cell? ⟨w.heap.size, j2 * 3 + 1, none⟩ = some (.int .i64 r1) ∧ w'.cell? ⟨w.heap.size, j2 * 3 + 2, none⟩ = some (.int .i64 r2))
          (first | exact ⟨u0, u1, u2, u3, u4, u5, u6, u7, u8⟩ | (go_keep))
          (first | fail)
        go_wp2_with fail
        go_meet
        refine ⟨_, rfl, ?_, ?_⟩
        · first | exact nw | exact nw (w := World.drew _)
        · first | exact (balloc (Below.refl _ _) _).drew | exact balloc ((Below.refl _ _).drew) _
      case rest =>
        obtain ⟨blk, rfl, hblk, hbw⟩ := hcut
        have HBL := Lib.hid hblk
        have WC := Lib.hid (WR.out.trans (hbw.mono WR.out.size))
        have lk := lt_of_block hblk
        obtain ⟨ux, _⟩ : wc.cell? ⟨blk, 0, none⟩ = some (.int .u8 p0) ∧ True := ⟨by simp [World.cell?, hblk, cell3], trivial⟩
        clear hblk hbw u0 u1 u2 u3 u4 u5 u6 u7 u8 f0 f1 f2 f3 g0 g1 g2 g3 t0 t2 b0 b1 b2 b3 b4 b5 HEr
        go_upto_region 6 with fail
        obtain ⟨W2, hW2⟩ : ∃ W2, W2 = ((wc.alloc (.cells #[] 46)).alloc (.cells #[.slice (some ⟨blk, 0, none⟩) 3 3, .slice (some ⟨blk, 0, none⟩) 2 3, .slice (some ⟨blk, 3, none⟩) 2 2, .slice (some ⟨wc.heap.size, 0, none⟩) 0 0] 43)).drew := ⟨_, rfl⟩
        have bl2 : W2.heap[blk]? = some (.cells (([(p0, p1, p2), (q0, q1, q2), (r0, r1, r2)] : List Stp).flatMap cell3).toArray 46 (0, 0)) := by rw [hW2]; exact al (al HBL.out)
        have SS := Lib.hid (show ReadsSS W2 (.slice (some ⟨wc.heap.size + 1, 0, none⟩) 4 4) [[(p0, p1, p2), (q0, q1, q2), (r0, r1, r2)], [(p0, p1, p2), (q0, q1, q2)], [(q0, q1, q2), (r0, r1, r2)], []] from
          ss_four (by rw [hW2]; exact nw1) (r3_sub bl2 0 3 3 (by simp)) (r3_sub bl2 0 2 3 (by simp)) (r3_sub bl2 1 2 2 (by simp)) ⟨_, 0, rfl, fun j x hj => by simp at hj⟩)
        have HWS := Lib.hid (show WfSS [[(p0, p1, p2), (q0, q1, q2), (r0, r1, r2)], [(p0, p1, p2), (q0, q1, q2)], [(q0, q1, q2), (r0, r1, r2)], []] from by
          intro xs hxs
          simp only [List.mem_cons, List.not_mem_nil, or_false] at hxs
          rcases hxs with rfl | rfl | rfl | rfl
          · exact ⟨HWX.out, by simp⟩
          · exact ⟨fun x hx => HWX.out x (by simp at hx ⊢; rcases hx with h | h <;> simp [h]), by simp⟩
          · exact ⟨fun x hx => HWX.out x (by simp at hx ⊢; rcases hx with h | h <;> simp [h]), by simp⟩
          · exact ⟨fun x hx => by simp at hx, by simp⟩)
        have WC2 := Lib.hid (show Below w1.heap.size w1 W2 by rw [hW2]; exact (balloc (balloc WC.out _) _).drew)
        subst hW2
        clear bl2
        go_region_with ((go_at_call 24; refine (runs_any _ _ HWS.out (by simp) _ SS.out).mono ?_; rintro e w5 ⟨rfl, hb⟩; have WE := Lib.hid (bnext WC2.out hb); clear hb))
        all_goals
          go_wp2_with fail
          have hk := HK.out
          go_roundg (gk - 1)
          case rel => exact ⟨k + 1, by omega, by simp, WE.out⟩
          case measure => omega
    · obtain rfl : k = 512 := by omega
      clear hk hb
      have W2 := Lib.hid (bnext W1.out WR.out)
      go_upto_region 10 with fail
      obtain ⟨w3, hw3⟩ : ∃ w3, w3 = wr.alloc (.cells #[.int .i64 (-9223372036854775808), .int .i64 (-1), .int .i64 0, .int .i64 1, .int .i64 2, .int .i64 1048576, .int .i64 1048577, .int .i64 9223372036854775807] 3) := ⟨_, rfl⟩
      have HN := Lib.hid (show w3.heap[wr.heap.size]? = some (.cells #[.int .i64 (-9223372036854775808), .int .i64 (-1), .int .i64 0, .int .i64 1, .int .i64 2, .int .i64 1048576, .int .i64 1048577, .int .i64 9223372036854775807] 3) by rw [hw3]; exact nw)
      have W3 := Lib.hid (show Below w.heap.size w w3 by rw [hw3]; exact balloc W2.out _)
      obtain ⟨nb, hnb⟩ : ∃ nb, nb = wr.heap.size := ⟨_, rfl⟩
      rw [← hw3, ← hnb]
      rw [← hnb] at HN
      clear hw3 hnb
      obtain ⟨gko, rfl⟩ : ∃ gko : Nat, gko = gk := ⟨_, rfl⟩
      obtain ⟨wo, rfl⟩ : ∃ wo : World, wo = wr := ⟨_, rfl⟩
      go_wp2_with fail
      go_loopg [73] 8 (fun gk i wx => ∃ k : Nat, k + gk = 8 ∧ i = .int .i64 k ∧ Below w3.heap.size w3 wx)
      case atStart => exact ⟨0, by omega, rfl, Below.refl _ _⟩
      case round =>
        obtain ⟨k, hk, rfl, hb⟩ := hrel
        have HK := Lib.hid hk; have WR3 := Lib.hid hb
        by_cases hlt : k < 8
        · have hnew : ∃ y : Int, wr.cell? ⟨nb, k, none⟩ = some (.int .i64 y) ∧ -9223372036854775808 ≤ y ∧ y ≤ 9223372036854775807 := by
            have h := carry hb HN.out
            rcases k with _ | _ | _ | _ | _ | _ | _ | _ | k
            · exact ⟨-9223372036854775808, by simp [World.cell?, h], by omega, by omega⟩
            · exact ⟨-1, by simp [World.cell?, h], by omega, by omega⟩
            · exact ⟨0, by simp [World.cell?, h], by omega, by omega⟩
            · exact ⟨1, by simp [World.cell?, h], by omega, by omega⟩
            · exact ⟨2, by simp [World.cell?, h], by omega, by omega⟩
            · exact ⟨1048576, by simp [World.cell?, h], by omega, by omega⟩
            · exact ⟨1048577, by simp [World.cell?, h], by omega, by omega⟩
            · exact ⟨9223372036854775807, by simp [World.cell?, h], by omega, by omega⟩
            · omega
          obtain ⟨y, ey, y0, y1⟩ := hnew
          clear hk hb
          go_wp2_with fail
          obtain ⟨V, hV⟩ : ∃ V, V = ((((wr.alloc (.cells (([(1, y, 0), (1, 1, 0)] : List Stp).flatMap cell3).toArray 46)).alloc (.cells (([(2, 0, 0), (1, y, 0)] : List Stp).flatMap cell3).toArray 46)).alloc (.cells (([(3, 5, y), (4, 1, y)] : List Stp).flatMap cell3).toArray 46)).alloc (.cells (([(4, y, y)] : List Stp).flatMap cell3).toArray 46)).alloc
            (.cells #[.slice (some ⟨wr.heap.size, 0, none⟩) 2 2, .slice (some ⟨wr.heap.size + 1, 0, none⟩) 2 2, .slice (some ⟨wr.heap.size + 1 + 1, 0, none⟩) 2 2, .slice (some ⟨wr.heap.size + 1 + 1 + 1, 0, none⟩) 1 1] 43) := ⟨_, rfl⟩
          have SS := Lib.hid (show ReadsSS V (.slice (some ⟨wr.heap.size + 1 + 1 + 1 + 1, 0, none⟩) 4 4) [[(1, y, 0), (1, 1, 0)], [(2, 0, 0), (1, y, 0)], [(3, 5, y), (4, 1, y)], [(4, y, y)]] from
            ss_four (by rw [hV]; exact nwk (by simp)) (r3_sub (xs := [(1, y, 0), (1, 1, 0)]) (by rw [hV]; exact al (al (al (al nw)))) 0 2 2 (by simp)) (r3_sub (xs := [(2, 0, 0), (1, y, 0)]) (by rw [hV]; exact al (al (al nw1))) 0 2 2 (by simp))
              (r3_sub (xs := [(3, 5, y), (4, 1, y)]) (by rw [hV]; exact al (al (nwk (by simp)))) 0 2 2 (by simp)) (r3_sub (xs := [(4, y, y)]) (by rw [hV]; exact al (nwk (by simp))) 0 1 1 (by simp)))
          have HWS := Lib.hid (show WfSS [[(1, y, 0), (1, 1, 0)], [(2, 0, 0), (1, y, 0)], [(3, 5, y), (4, 1, y)], [(4, y, y)]] from by
            intro xs hxs
            simp only [List.mem_cons, List.not_mem_nil, or_false] at hxs
            rcases hxs with rfl | rfl | rfl | rfl
            all_goals
              refine ⟨fun x hx => ?_, by simp⟩
              simp only [List.mem_cons, List.not_mem_nil, or_false] at hx
            · rcases hx with rfl | rfl <;> (dsimp only; omega)
            · rcases hx with rfl | rfl <;> (dsimp only; omega)
            · rcases hx with rfl | rfl <;> (dsimp only; omega)
            · subst hx; dsimp only; omega)
          have WV := Lib.hid (show Below w3.heap.size w3 V by rw [hV]; exact balloc (balloc (balloc (balloc (balloc WR3.out _) _) _) _) _)
          have hV' : V = ((((wr.alloc (.cells #[.int .u8 1, .int .i64 y, .int .i64 0, .int .u8 1, .int .i64 1, .int .i64 0] 46)).alloc (.cells #[.int .u8 2, .int .i64 0, .int .i64 0, .int .u8 1, .int .i64 y, .int .i64 0] 46)).alloc (.cells #[.int .u8 3, .int .i64 5, .int .i64 y, .int .u8 4, .int .i64 1, .int .i64 y] 46)).alloc (.cells #[.int .u8 4, .int .i64 y, .int .i64 y] 46)).alloc
            (.cells #[.slice (some ⟨wr.heap.size, 0, none⟩) 2 2, .slice (some ⟨wr.heap.size + 1, 0, none⟩) 2 2, .slice (some ⟨wr.heap.size + 1 + 1, 0, none⟩) 2 2, .slice (some ⟨wr.heap.size + 1 + 1 + 1, 0, none⟩) 1 1] 43) := hV
          rw [← hV']
          clear hV hV' ey
          refine (runs_any y _ HWS.out (by simp) _ SS.out).mono ?_
          rintro e w5 ⟨rfl, hb⟩
          have WE := Lib.hid (bnext WV.out hb)
          clear hb
          dsimp only
          go_wp2_with fail
          have hk := HK.out
          go_roundg (gk - 1)
          case rel => exact ⟨k + 1, by omega, by simp, WE.out⟩
          case measure => omega
        · obtain rfl : k = 8 := by omega
          clear hk hb
          have W4 := Lib.hid (bnext W3.out WR3.out)
          go_wp2_with fail
          refine (catch_nil _).mono ?_
          rintro e w5 ⟨rfl, hb⟩
          have W5 := Lib.hid (bnext W4.out hb)
          clear hb
          dsimp only
          go_wp2_with fail
          refine (try_nil _).mono ?_
          rintro e w6 ⟨rfl, hb⟩
          have W6 := Lib.hid (bnext (balloc W5.out _) hb)
          clear hb
          dsimp only
          go_wp2_with fail
          refine (or_none1 _ 1 (by decide) (by decide) _).mono ?_
          rintro e w' ⟨rfl, rfl⟩
          dsimp only
          go_wp2_with fail
          refine (or_none2 25 _ 2 (by decide) (by decide) _).mono ?_
          rintro e w' ⟨rfl, rfl⟩
          dsimp only
          go_wp2_with fail
          refine (or_kind _ _ 0 (by decide) _).mono ?_
          rintro e w' ⟨rfl, rfl⟩
          dsimp only
          go_wp2_with fail
          refine (or_kind _ _ 3 (by decide) _).mono ?_
          rintro e w' ⟨rfl, rfl⟩
          dsimp only
          go_wp2_with fail
          refine (or_one _).mono ?_
          rintro e w7 ⟨rfl, hb⟩
          have W7 := Lib.hid (bnext (balloc W6.out _) hb)
          clear hb
          dsimp only
          go_wp2_with fail
          refine (long_out _).mono ?_
          rintro e w8 ⟨rfl, hb⟩
          have W8 := Lib.hid (bnext (W7.out) hb)
          clear hb
          dsimp only
          go_wp2_with fail
          refine (thrown_fault 2 1048577 (by decide) (by decide) _).mono ?_
          rintro e w9 ⟨rfl, hb⟩
          have W9 := Lib.hid (bnext (W8.out) hb)
          clear hb
          dsimp only
          go_wp2_with fail
          obtain ⟨wA, hA⟩ : ∃ wA, wA = (w9.alloc (.cells #[.int .i64 0, .int .i64 0, .int .i64 0, .bool false] 58)).alloc (.cells #[.pointer none, .pointer (some ⟨w9.heap.size, 0, none⟩)] 56) := ⟨_, rfl⟩
          have M0 := Lib.hid (show meter0 wA w9.heap.size by rw [hA]; exact al nw)
          have P0 := Lib.hid (show wA.heap[w9.heap.size + 1]? = some (.cells #[.pointer none, .pointer (some ⟨w9.heap.size, 0, none⟩)] 56) by rw [hA]; exact nw1)
          have WA := Lib.hid (show Below w.heap.size w wA by rw [hA]; exact balloc (balloc W9.out _) _)
          rw [← hA]
          clear hA
          obtain ⟨gk2, rfl⟩ : ∃ gk2 : Nat, gk2 = gk := ⟨_, rfl⟩
          obtain ⟨wp, rfl⟩ : ∃ wp : World, wp = wr := ⟨_, rfl⟩
          obtain ⟨z0, z1, _, _⟩ := cell_two P0.out
          go_loopg [192] 2 (fun gk i wx => ∃ k : Nat, k + gk = 2 ∧ i = .int .i64 k ∧ wx = wA)
          case atStart => exact ⟨0, by omega, rfl, rfl⟩
          case round =>
            obtain ⟨k, hk, rfl, rfl⟩ := hrel
            have HK := Lib.hid hk
            clear hk
            rcases k with _ | _ | k
            · go_wp2_with (first | (go_at_call 31; refine (use_nil _ _).mono ?_; rintro e w' ⟨rfl, rfl⟩) | (go_at_call 32; refine (fill_nil _).mono ?_; rintro e w' ⟨rfl, rfl⟩) | (go_at_call 33; refine (left_nil _).mono ?_; rintro e w' ⟨rfl, rfl⟩) | (go_at_call 34; refine (used_nil _).mono ?_; rintro e w' ⟨rfl, rfl⟩))
              have hk := HK.out
              go_roundg (gk - 1)
              case rel => exact ⟨1, by omega, by simp, rfl⟩
              case measure => omega
            · go_wp2_with (first | (go_at_call 31; refine (use_no _ _ _ M0.out).mono ?_; rintro e w' ⟨rfl, rfl⟩) | (go_at_call 32; refine (fill_no _ _ M0.out).mono ?_; rintro e w' ⟨rfl, rfl⟩) | (go_at_call 33; refine (left_no _ _ M0.out).mono ?_; rintro e w' ⟨rfl, rfl⟩) | (go_at_call 34; refine (used_no _ _ M0.out).mono ?_; rintro e w' ⟨rfl, rfl⟩))
              have hk := HK.out
              go_roundg (gk - 1)
              case rel => exact ⟨2, by omega, by simp, rfl⟩
              case measure => omega
            · obtain rfl : k = 0 := by have := HK.out; omega
              go_wp2_with fail
              refine (awake_true _).mono ?_
              rintro e w10 ⟨rfl, hb⟩
              have W10 := Lib.hid (bnext WA.out hb)
              clear hb
              dsimp only
              go_wp2_with fail
              go_ret
              exact ⟨rfl, W10.out⟩
end Go.Proofs.Ytpjccbbemhjgbaa
