import Derived.Test.YtogdhmbdackeeaaQ
namespace Go.Proofs.Ytogdhmbdackeeaa
open Go.RowKit
set_option linter.unusedVariables false

theorem cell_eight {w : World} {b : Nat} {a0 a1 a2 a3 a4 a5 a6 a7 : Value} {t : TypeId} (h : w.heap[b]? = some (.cells #[a0, a1, a2, a3, a4, a5, a6, a7] t (0, 0))) :
    w.cell? ⟨b, 0, none⟩ = some a0 ∧ w.cell? ⟨b, 1, none⟩ = some a1 ∧ w.cell? ⟨b, 2, none⟩ = some a2 ∧ w.cell? ⟨b, 3, none⟩ = some a3 ∧ w.cell? ⟨b, 4, none⟩ = some a4 ∧ w.cell? ⟨b, 5, none⟩ = some a5 ∧ w.cell? ⟨b, 6, none⟩ = some a6 ∧ w.cell? ⟨b, 7, none⟩ = some a7 := by simp [World.cell?, h]

theorem bpart_at {w : World} {b : Nat} {s a x : Int} {l : List Int} (H : Buf w b s l a) (h : a + l.length = x) : Calls Try.prog 18 #[at0 b] w fun e w' => e = .returned (part a x) ∧ Below w.heap.size w w' := by
  subst h; exact bpart H
theorem equal_true {w : World} {u v : Value} {p : List Int} (h1 : Reads w u p) (h2 : Reads w v p) (hp : Bytes p) :
    Calls Try.prog 19 #[u, v] w fun e w' => e = .returned (.bool true) ∧ w = w' := by
  have h := equal_is h1 h2 hp hp
  rwa [decide_eq_true rfl] at h

set_option maxRecDepth 100000 in
set_option maxHeartbeats 4000000 in
theorem wrong_true (n m : Int) (h0 : 0 ≤ n) (h1 : n ≤ 255) (hf0 : -9223372036854775808 ≤ m) (hf1 : m ≤ 9223372036854775807) (sa : Option Addr) (cap : Nat) (zs : List Int) (hz : Bytes zs) (hcap : zs.length ≤ cap) (hbig : cap ≤ 9223372036854775807) (w : World) (hr : Reads w (.slice sa zs.length cap) zs) :
    Calls Try.prog 5 #[.int .u8 n, .slice sa zs.length cap, .int .i64 m] w fun e w' => e = .returned (.bool true) ∧ Below w.heap.size w w' := by
  have HR := Lib.hid hr
  have HZ := Lib.hid hz
  obtain ⟨s0, s1⟩ := sz_le h0 h1
  clear hr hz
  go_enter Try.func5, Try.ntmps5
  go_upto_region 3 with (go_at_call 10; refine (awake_true _).mono ?_; rintro e w1 ⟨rfl, hb⟩; have W1 := Lib.hid hb; clear hb)
  go_cut [39, 40, 41] (fun s39 s40 s41 wx => s39 = .slice (some ⟨w1.heap.size, 0, none⟩) 4 4 ∧ s40 = .int .i64 4 ∧ s41 = .int .i64 0 ∧ ∃ x1 x2 x3 x4 : Int, wx.heap[w1.heap.size]? = some (.cells #[.int .i64 x1, .int .i64 0, .int .i64 x2, .int .i64 0, .int .i64 2, .int .i64 x3, .int .i64 2, .int .i64 x4] 43) ∧ x1 ≤ 1 ∧ 257 ≤ x2 ∧ x3 ≤ -1 ∧ 281474976710657 ≤ x4 ∧ Below w1.heap.size w1 wx)
  case first =>
    go_wp2_with fail
    all_goals
      go_meet
      refine ⟨rfl, rfl, rfl, _, _, _, _, nw, ?_, ?_, ?_, ?_, balloc (Below.refl _ _) _⟩
      all_goals first | omega | (split <;> omega)
  case rest =>
    obtain ⟨rfl, rfl, rfl, x1, x2, x3, x4, hx, q1, q2, q3, q4, hb⟩ := hcut
    have HX := Lib.hid hx
    have W2 := Lib.hid (bnext W1.out hb)
    clear hx hb
    go_wp2_with fail
    go_loopg [41] 4 (fun gk i wr => ∃ k : Nat, k + gk = 4 ∧ i = .int .i64 k ∧ Below w.heap.size w wr ∧ wr.heap[w1.heap.size]? = some (.cells #[.int .i64 x1, .int .i64 0, .int .i64 x2, .int .i64 0, .int .i64 2, .int .i64 x3, .int .i64 2, .int .i64 x4] 43))
    case atStart => exact ⟨0, rfl, rfl, W2.out, HX.out⟩
    case round =>
      obtain ⟨k, hk, rfl, hb, hx⟩ := hrel
      have HK := Lib.hid hk; have W3 := Lib.hid hb; have HX3 := Lib.hid hx
      have lx := lt_of_block hx
      have hw1 := W1.out.size
      by_cases hlt : k < 4
      · obtain ⟨e0, e1, e2, e3, e4, e5, e6, e7⟩ := cell_eight hx
        have hnew : ∃ y z : Int, wr.cell? ⟨w1.heap.size, k * 2, none⟩ = some (.int .i64 y) ∧ wr.cell? ⟨w1.heap.size, k * 2 + 1, none⟩ = some (.int .i64 z) ∧ (y < 2 ∨ 256 < y ∨ z < 0 ∨ 281474976710656 < z) := by
          rcases k with _ | _ | _ | _ | k
          · exact ⟨_, _, e0, e1, by omega⟩
          · exact ⟨_, _, e2, e3, by omega⟩
          · exact ⟨_, _, e4, e5, by omega⟩
          · exact ⟨_, _, e6, e7, by omega⟩
          · omega
        obtain ⟨y, z, ey, ez, hbad⟩ := hnew
        have HBAD := Lib.hid hbad
        clear hk hb hx e0 e1 e2 e3 e4 e5 e6 e7 hbad
        go_wp2_with (go_at_call 11; refine (new_bad y z HBAD.out _).mono ?_; rintro e w' ⟨rfl, rfl⟩)
        have hk := HK.out
        go_roundg (gk - 1)
        case rel => exact ⟨k + 1, by omega, by simp, (W3.out.alloc W3.out.size _), al HX3.out⟩
        case measure => omega
      · obtain rfl : k = 4 := by omega
        clear hk hb hx
        go_upto_region 10 with fail
        obtain ⟨M, hm⟩ : ∃ M, M = min (min zs.length 200) ((sz n).toNat - 1) := ⟨_, rfl⟩
        have HM := Lib.hid hm
        clear hm
        go_cut [1] (fun s1 wx => s1 = .slice sa M cap ∧ wx = wr)
        case first =>
          go_wp2_with (first | (go_at_call 12; refine (sz_is n h0 h1 _).mono ?_; rintro e w' ⟨rfl, rfl⟩))
          all_goals
            go_meet
            refine ⟨?_, rfl⟩
            simp only [Value.slice.injEq, true_and, and_true]
            have hm := HM.out
            first | omega | (split at * <;> omega)
        case rest =>
          obtain ⟨rfl, rfl⟩ := hcut
          have hm := HM.out
          have m0 : M ≤ zs.length := by omega
          have m1 : M ≤ 200 := by omega
          have m2 : (M : Int) ≤ sz n - 1 := by omega
          clear hm HM
          obtain ⟨p, hp⟩ : ∃ p, p = zs.take M := ⟨_, rfl⟩
          have hpl : p.length = M := by rw [hp]; simp; omega
          have RP := Lib.hid (show Reads w (.slice sa p.length cap) p from by rw [hpl, hp]; exact HR.out.take m0)
          have BP := Lib.hid (show Bytes p from by rw [hp]; exact fun x hx => HZ.out x (List.mem_of_mem_take hx))
          clear hp HR HZ
          subst hpl
          go_wp2_with (first | (go_at_call 12; refine (sz_is n h0 h1 _).mono ?_; rintro e w' ⟨rfl, rfl⟩))
          refine (bnew (sz n) (281474976710656 - p.length) s0 s1 (by omega) (by omega) _).mono ?_
          rintro e w4 ⟨rfl, hb, hw⟩
          have B4 := Lib.hid hb
          have W4 := Lib.hid (bnext W3.out hw)
          have N4 := W3.out.size
          clear hb hw HX3 HX W2 W3 lx
          dsimp only
          go_wp2_with fail
          go_loopg [85] p.length (fun gk i wr => ∃ k : Nat, k + gk = p.length ∧ i = .int .i64 k ∧ Buf wr wc.heap.size (sz n) (p.take k) (281474976710656 - p.length) ∧ Rg wc.heap.size (wc.heap.size + 1) w4 wr)
          case atStart => exact ⟨0, by omega, rfl, B4.out, Rg.refl _ _ _⟩
          case round =>
            obtain ⟨k, hk, rfl, hb, hr⟩ := hrel
            have HR2 := Lib.hid hr
            have HBB := Lib.hid hb
            have HK2 := Lib.hid hk
            by_cases hlt : k < p.length
            · obtain ⟨sa', c, e, hc⟩ := RP.out
              obtain ⟨pb, po, e2, hcell⟩ := hc k hlt
              obtain rfl : sa = some ⟨pb, po, none⟩ := by
                simp only [Value.slice.injEq] at e
                rw [e.1, e2]
              have hblk : pb < w.heap.size := World.block_lt_of_cell? _ _ hcell
              have hcell2 : wr.cell? ⟨pb, po + k, none⟩ = some (.int .u8 (rd p k)) :=
                (hr.low.cell (p := ⟨pb, po + k, none⟩) (show pb < wc.heap.size by omega)).trans ((W4.out.cell (p := ⟨pb, po + k, none⟩) hblk).trans hcell)
              have htl : (p.take k).length = k := by rw [List.length_take]; omega
              clear hb hr hk hc hcell e e2
              go_wp2_with (go_at_call 17; refine (bput (c := rd p k) HBB.out (by rw [htl]; omega) (by rw [htl]; omega)).mono ?_; rintro e w5 ⟨rfl, hb2, hr2⟩; have HB2 := Lib.hid hb2; have HR3 := Lib.hid hr2; clear hb2 hr2)
              have hk := HK2.out
              go_roundg (gk - 1)
              case rel =>
                refine ⟨k + 1, by omega, by simp, ?_, HR2.out.trans HR3.out⟩
                have e : p.take (k + 1) = p.take k ++ [rd p k] := by
                  rw [List.take_add_one, List.getElem?_eq_getElem hlt]
                  simp [rd, hlt]
                rw [e]
                exact HB2.out
              case measure => omega
            · obtain rfl : k = p.length := by omega
              have B5 := Lib.hid (show Buf wr wc.heap.size (sz n) p (281474976710656 - p.length) from by have := HBB.out; rwa [List.take_length] at this)
              have W5 := Lib.hid (W4.out.trans (HR2.out.low.mono N4))
              clear hb hr hk HR2 HBB HK2 W4 B4
              go_wp2_with fail
              refine (bpart B5.out).mono ?_
              rintro e w6 ⟨rfl, hb⟩
              have B6 := Lib.hid (B5.out.next hb)
              have W6 := Lib.hid (bnext W5.out hb)
              have hps : (281474976710656 - (p.length : Int)) + p.length = 281474976710656 := by omega
              rw [hps]
              clear hb B5 W5 hps
              dsimp only
              go_upto_region 21 with fail
              have hw6 := W6.out.size
              obtain ⟨wb, rfl⟩ : ∃ wb : World, wb = wc := ⟨_, rfl⟩
              go_cut [103, 104, 105] (fun s103 s104 s105 wx => s103 = .slice (some ⟨w6.heap.size + 1, 0, none⟩) 2 2 ∧ s104 = .int .i64 2 ∧ s105 = .int .i64 0 ∧ ∃ x1 x2 : Int, wx.heap[w6.heap.size + 1]? = some (.cells #[.int .i64 x1, .int .i64 x2] 3) ∧ wx.heap[w6.heap.size]? = some (.cells #[.int .i64 (281474976710656 - (p.length : Int)), .int .i64 281474976710656] 31) ∧ x1 < 0 ∧ (p.length : Int) < x2 ∧ Below w6.heap.size w6 wx)
              case first =>
                go_wp2_with fail
                all_goals
                  go_meet
                  refine ⟨rfl, rfl, rfl, _, _, nwk (by simp), al nw, ?_, ?_, balloc (balloc (Below.refl _ _) _) _⟩
                  all_goals omega
              case rest =>
                obtain ⟨rfl, rfl, rfl, y1, y2, hx, hp, r1, r2, hb⟩ := hcut
                have HX := Lib.hid hx
                have HP := Lib.hid hp
                have B7 := Lib.hid (B6.out.next hb)
                have W7 := Lib.hid (bnext W6.out hb)
                obtain ⟨w7, rfl⟩ : ∃ w7 : World, w7 = wc := ⟨_, rfl⟩
                clear hx hp hb
                go_wp2_with fail
                go_loopg [105] 2 (fun gk i wr => ∃ k : Nat, k + gk = 2 ∧ i = .int .i64 k ∧ Below w7.heap.size w7 wr)
                case atStart => exact ⟨0, by omega, rfl, Below.refl _ _⟩
                case round =>
                  obtain ⟨k, hk, rfl, hb⟩ := hrel
                  have HK3 := Lib.hid hk
                  have HB7 := Lib.hid hb
                  by_cases hlt : k < 2
                  · obtain ⟨e0, e1, _, _⟩ := cell_two (carry hb HX.out)
                    have hnew : ∃ y : Int, wr.cell? ⟨w6.heap.size + 1, k, none⟩ = some (.int .i64 y) ∧ (y < 0 ∨ (p.length : Int) < y) := by
                      rcases k with _ | _ | k
                      · exact ⟨_, e0, by omega⟩
                      · exact ⟨_, e1, by omega⟩
                      · omega
                    obtain ⟨y, ey, hbad⟩ := hnew
                    have HBAD := Lib.hid hbad
                    clear hk hb e0 e1 hbad
                    go_wp2_with fail
                    refine (btake_bad ((B7.out.next HB7.out)) HBAD.out).mono ?_
                    rintro e w8 ⟨rfl, hb⟩
                    have HB8 := Lib.hid (bnext HB7.out hb)
                    clear hb
                    dsimp only
                    go_wp2_with fail
                    refine (bat_no (((B7.out.next HB8.out)).alloc _) (by rcases HBAD.out with h | h <;> omega)).mono ?_
                    rintro e w9 ⟨rfl, rfl⟩
                    dsimp only
                    go_wp2_with fail
                    have hk := HK3.out
                    go_roundg (gk - 1)
                    case rel => exact ⟨k + 1, by omega, by simp, balloc HB8.out _⟩
                    case measure => omega
                  · obtain rfl : k = 2 := by omega
                    clear hk hb
                    have B8 := Lib.hid (B7.out.next HB7.out)
                    have W8 := Lib.hid (bnext W7.out HB7.out)
                    have HP8 := Lib.hid (carry HB7.out HP.out)
                    go_wp2_with fail
                    refine (bdiscard_room B8.out (by omega)).mono ?_
                    rintro e w9 ⟨rfl, hb⟩
                    have B9 := Lib.hid (B8.out.next hb)
                    have W9 := Lib.hid (bnext W8.out hb)
                    have HP9 := Lib.hid (carry hb HP8.out)
                    clear hb B8 W8 HP8
                    dsimp only
                    go_upto_region 30 with fail
                    obtain ⟨d0, d1, _, _⟩ := cell_two (al (x := .cells #[.int .i64 0, .int .i64 0] 31) HP9.out)
                    have B10 := Lib.hid ((B9.out.alloc (.cells #[.int .i64 0, .int .i64 0] 31)).drew)
                    have W10 := Lib.hid (show Below w.heap.size w (w9.alloc (.cells #[.int .i64 0, .int .i64 0] 31)).drew from (balloc W9.out _).drew)
                    have HP10 := Lib.hid (show (w9.alloc (.cells #[.int .i64 0, .int .i64 0] 31)).drew.heap[w6.heap.size]? = _ from al HP9.out)
                    go_region_with ((first
                      | (go_at_call 17; refine (bput_long (c := 120) B10.out (by omega) (by omega)).mono ?_; rintro e w11 ⟨rfl, hb⟩; obtain ⟨d2, d3, _, _⟩ := cell_two (carry hb HP10.out); have B11 := Lib.hid (B10.out.next hb); have W11 := Lib.hid (bnext W10.out hb); have HP11 := Lib.hid (carry hb HP10.out); clear hb)
                      | (go_at_call 18; refine (bpart_at (x := 281474976710656) B11.out (by omega)).mono ?_; rintro e w12 ⟨rfl, hb⟩; obtain ⟨d4, d5, _, _⟩ := cell_two (carry hb HP11.out); have B12 := Lib.hid (B11.out.next hb); have W12 := Lib.hid (bnext W11.out hb); clear hb)
                      | (go_at_call 15; refine (bbytes B12.out).mono ?_; rintro e w13 ⟨v, rfl, hrow, hb⟩; have R13 := Lib.hid (Row.reads hrow); have W13 := Lib.hid (bnext W12.out hb); clear hb hrow)
                      | (go_at_call 19; refine (equal_true R13.out (RP.out.next W13.out) BP.out).mono ?_; rintro e w14 ⟨rfl, rfl⟩)))
                    all_goals
                      go_wp2_with fail
                      go_ret
                      exact ⟨rfl, W13.out⟩
end Go.Proofs.Ytogdhmbdackeeaa
