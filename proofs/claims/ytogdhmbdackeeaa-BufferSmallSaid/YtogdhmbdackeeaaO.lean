import Derived.Test.YtogdhmbdackeeaaN
import Derived.Lib.SlBytesConst
namespace Go.Proofs.Ytogdhmbdackeeaa
open Go.RowKit
set_option linter.unusedVariables false

theorem reads_two {w : World} {x y : Int} : Reads (w.alloc (.cells #[.int .u8 x, .int .u8 y] 5 (2, 3))) (.slice (some ⟨w.heap.size, 0, none⟩) 2 2) [x, y] := by
  have e := nw (w := w) (o := .cells #[.int .u8 x, .int .u8 y] 5 (2, 3))
  refine ⟨_, 2, rfl, fun j hj => ⟨_, 0, rfl, ?_⟩⟩
  simp only [World.cell?, e]
  rcases j with _ | _ | j
  · rfl
  · rfl
  · exact absurd hj (by simp)
theorem reads_nil {w : World} : Reads w (.slice none 0 0) [] := ⟨none, 0, rfl, fun j hj => by simp at hj⟩

theorem bfindi {w : World} {b : Nat} {s a fr : Int} {l : List Int} {sv : Value} {p : List Int} (H : Buf w b s l a) (hr : Reads w sv p) (hp : p.length ≤ 1000) (h0 : 0 ≤ fr) (hfr : fr ≤ l.length) :
    Calls Try.prog 23 #[at0 b, sv, .int .i64 fr] w fun e w' => ∃ v, e = .returned (.int .i64 v) ∧ FoundL l p fr.toNat v ∧ Below w.heap.size w w' := by
  have := bfind (fr := fr.toNat) H hr hp (by omega)
  rwa [show ((fr.toNat : Nat) : Int) = fr by omega] at this

theorem awake_found1 {v : Int} (h : FoundL [102, 103, 104] [103, 104] 0 v) : v = 1 := by
  rcases h with ⟨_, h⟩ | ⟨k, rfl, _, h1, h2, _⟩
  · exact (h 1 (by omega) (by simp) rfl).elim
  · rcases k with _ | _ | k
    · simp [Here] at h2
    · rfl
    · simp at h1
theorem awake_found2 {v : Int} (h : FoundL [102, 103, 104] [103, 104] 2 v) : v = -1 := by
  rcases h with ⟨rfl, h⟩ | ⟨k, rfl, h0, h1, _⟩
  · rfl
  · simp at h1; omega
theorem awake_found3 {v : Int} (h : FoundL [102, 103, 104] [] 3 v) : v = 3 := by
  rcases h with ⟨_, h⟩ | ⟨k, rfl, h0, h1, _⟩
  · exact (h 3 (by omega) (by simp) rfl).elim
  · simp at h1; omega

set_option maxRecDepth 100000 in
set_option maxHeartbeats 4000000 in
theorem awake_true (w : World) : Calls Try.prog 10 #[] w fun e w' => e = .returned (.bool true) ∧ Below w.heap.size w w' := by
  go_enter Try.func10, Try.ntmps10
  go_wp2_with fail
  refine (filled_ok _ 5 10 ⟨#[97, 98, 99, 100, 101]⟩ (by omega) (by omega) (by omega) (by decide) (by decide)).mono ?_
  rintro e w1 ⟨rfl, hb, hw⟩
  have B1 := Lib.hid (show Buf w1 w.heap.size 5 [97, 98, 99, 100, 101] 10 from hb)
  have W1 := Lib.hid hw
  clear hb hw
  dsimp only
  go_wp2_with fail
  refine (bfull B1.out).mono ?_
  rintro e w2 ⟨rfl, hb⟩
  have B2 := Lib.hid (B1.out.next hb)
  have W2 := Lib.hid (bnext W1.out hb)
  clear hb B1 W1
  dsimp only
  go_wp2_with fail
  refine (bpart B2.out).mono ?_
  rintro e w3 ⟨rfl, hb⟩
  have B3 := Lib.hid (B2.out.next hb)
  have W3 := Lib.hid (bnext W2.out hb)
  clear hb B2 W2
  dsimp only
  go_wp2_with fail
  refine (bput_full B3.out (by decide)).mono ?_
  rintro e w4 ⟨rfl, hb⟩
  have B4 := Lib.hid (B3.out.next hb)
  have W4 := Lib.hid (bnext W3.out hb)
  clear hb B3 W3
  dsimp only
  go_wp2_with fail
  refine (bdiscard B4.out (by decide)).mono ?_
  rintro e w5 ⟨rfl, hb, hr⟩
  have B5 := Lib.hid (show Buf w5 w.heap.size 5 [100, 101] 13 from hb)
  have W5 := Lib.hid (W4.out.trans hr.low)
  clear hb hr B4 W4
  dsimp only
  go_wp2_with fail
  have N5 := W5.out.size
  have N5b := B5.out.lt
  refine (bbytes (B5.out.alloc _)).mono ?_
  rintro e w6 ⟨v, rfl, hrow, hb⟩
  obtain ⟨sa, cap, rfl, _⟩ := Row.shape hrow
  have hcv : (convert 23 9 (.slice sa 2 cap)).run Try.prog w6 = .ok (.string ⟨#[100, 101]⟩) w6 := Reads.conv (Row.reads (show Row w6 _ _ [100, 101] from hrow))
  have D1 := Lib.hid (carry hb (nw (w := w5) (o := .cells #[.int .i64 10, .int .i64 13] 31)))
  obtain ⟨d0, d1, _, _⟩ := cell_two D1.out
  have B6 := Lib.hid ((B5.out.alloc _).next hb)
  have W6 := Lib.hid (W5.out.trans ((balloc (Below.refl _ w5) _).trans (hb.mono (by simp)) |>.mono N5))
  clear hrow hb B5 W5
  dsimp only
  go_wp2_with fail
  clear hcv d0 d1
  refine (bput (c := 102) B6.out (by decide) (by decide)).mono ?_
  rintro e w7 ⟨rfl, hb, hr⟩
  have B7 := Lib.hid (show Buf w7 w.heap.size 5 [100, 101, 102] 13 from hb)
  have W7 := Lib.hid (W6.out.trans hr.low)
  replace D1 := Lib.hid (hr.keep (.inr (by omega)) D1.out)
  clear hb hr B6 W6
  dsimp only
  go_wp2_with fail
  refine (bput (c := 103) B7.out (by decide) (by decide)).mono ?_
  rintro e w8 ⟨rfl, hb, hr⟩
  have B8 := Lib.hid (show Buf w8 w.heap.size 5 [100, 101, 102, 103] 13 from hb)
  have W8 := Lib.hid (W7.out.trans hr.low)
  replace D1 := Lib.hid (hr.keep (.inr (by omega)) D1.out)
  clear hb hr B7 W7
  dsimp only
  go_wp2_with fail
  refine (bput (c := 104) B8.out (by decide) (by decide)).mono ?_
  rintro e w9 ⟨rfl, hb, hr⟩
  have B9 := Lib.hid (show Buf w9 w.heap.size 5 [100, 101, 102, 103, 104] 13 from hb)
  have W9 := Lib.hid (W8.out.trans hr.low)
  replace D1 := Lib.hid (hr.keep (.inr (by omega)) D1.out)
  clear hb hr B8 W8
  dsimp only
  go_wp2_with fail
  refine (bfull B9.out).mono ?_
  rintro e w10 ⟨rfl, hb⟩
  have B10 := Lib.hid (B9.out.next hb)
  have W10 := Lib.hid (bnext W9.out hb)
  replace D1 := Lib.hid (carry hb D1.out)
  clear hb B9 W9
  dsimp only
  go_wp2_with fail
  refine (btake (n := 2) B10.out (by decide)).mono ?_
  rintro e w11 ⟨u, rfl, hrow, hb, hr⟩
  obtain ⟨ub, ucap, rfl, _⟩ := Row.shape hrow
  have R11 := Lib.hid (show Row w11 w10.heap.size _ [100, 101] from hrow)
  have B11 := Lib.hid (show Buf w11 w.heap.size 5 [102, 103, 104] 15 from hb)
  have W11 := Lib.hid (W10.out.trans hr.low)
  have L10 := B10.out.lt
  replace D1 := Lib.hid (hr.keep (.inr (by omega)) D1.out)
  clear hrow hb hr B10 W10
  dsimp only
  go_wp2_with fail
  refine (bdiscard_room (B11.out.alloc _) (by decide)).mono ?_
  rintro e w12 ⟨rfl, hb⟩
  have D2 := Lib.hid (carry hb (nw (w := w11) (o := .cells #[.int .i64 13, .int .i64 15] 31)))
  have B12 := Lib.hid ((B11.out.alloc _).next hb)
  have W12 := Lib.hid (bnext (balloc W11.out _) hb)
  have R12 := Lib.hid ((R11.out.next ((balloc (Below.refl _ w11) (.cells #[.int .i64 13, .int .i64 15] 31)).trans (hb.mono (by simp)))))
  have hcv : (convert 23 9 (.slice ub 2 ucap)).run Try.prog (w12.alloc (.cells #[.int .i64 0, .int .i64 0] 31)) = .ok (.string ⟨#[100, 101]⟩) (w12.alloc (.cells #[.int .i64 0, .int .i64 0] 31)) := Reads.conv (Row.reads (show Row _ _ _ [100, 101] from R12.out.next (balloc (Below.refl _ w12) _)))
  obtain ⟨d0, d1, _, _⟩ := cell_two (al (x := .cells #[.int .i64 0, .int .i64 0] 31) D2.out)
  have N12 := W12.out.size
  have hc1 := Lib.run_convert_bytes_const (P := Try.prog) (w12.alloc (.cells #[.int .i64 0, .int .i64 0] 31)) 23 5 #[.int .u8 103, .int .u8 104] 2 2 Try.underlying23 Try.underlying5
  simp only [World.size_alloc, List.size_toArray, List.length_cons, List.length_nil, Nat.zero_add, Nat.reduceAdd] at hc1
  replace D1 := Lib.hid (carry hb (al D1.out))
  clear hb B11 W11 R11
  dsimp only
  go_wp2_with fail
  clear hcv hc1
  have hr1 := reads_two (w := w12.alloc (.cells #[.int .i64 0, .int .i64 0] 31)) (x := 103) (y := 104)
  rw [World.size_alloc] at hr1
  refine (bfindi (fr := 0) ((B12.out.alloc _).alloc _) hr1 (by decide) (by decide) (by decide)).mono ?_
  rintro e w13 ⟨v1, rfl, hv, hb⟩
  obtain rfl := awake_found1 hv
  have B13 := Lib.hid (((B12.out.alloc _).alloc _).next hb)
  have W13 := Lib.hid (bnext (balloc (balloc W12.out _) _) hb)
  have hc2 := Lib.run_convert_bytes_const (P := Try.prog) w13 23 5 #[.int .u8 103, .int .u8 104] 2 2 Try.underlying23 Try.underlying5
  simp only [List.size_toArray, List.length_cons, List.length_nil, Nat.zero_add, Nat.reduceAdd] at hc2
  replace D1 := Lib.hid (carry hb (al (al D1.out)))
  clear hb hv hr1 B12 W12 d0 d1 D2 R12
  dsimp only
  go_wp2_with fail
  clear hc2
  refine (bfindi (fr := 2) (B13.out.alloc _) (reads_two (w := w13) (x := 103) (y := 104)) (by decide) (by decide) (by decide)).mono ?_
  rintro e w14 ⟨v2, rfl, hv, hb⟩
  obtain rfl := awake_found2 hv
  have B14 := Lib.hid ((B13.out.alloc _).next hb)
  have W14 := Lib.hid (bnext (balloc W13.out _) hb)
  replace D1 := Lib.hid (carry hb (al D1.out))
  clear hb hv B13 W13
  dsimp only
  go_wp2_with fail
  refine (bfindi (fr := 3) B14.out reads_nil (by decide) (by decide) (by decide)).mono ?_
  rintro e w15 ⟨v3, rfl, hv, hb⟩
  obtain rfl := awake_found3 hv
  have W15 := Lib.hid (bnext W14.out hb)
  replace D1 := Lib.hid (carry hb D1.out)
  have N15 := lt_of_block D1.out
  clear hb hv B14 W14
  dsimp only
  go_wp2_with fail
  refine (filled_ok _ 2 0 ⟨#[97, 98]⟩ (by omega) (by omega) (by omega) (by decide) (by decide)).mono ?_
  rintro e w16 ⟨rfl, hb, hw⟩
  have B16 := Lib.hid (show Buf w16 w15.heap.size 2 [97, 98] 0 from hb)
  have W16 := Lib.hid (bnext W15.out hw)
  replace D1 := Lib.hid (carry hw D1.out)
  clear hb hw W15
  dsimp only
  go_wp2_with fail
  refine (filled_ok _ 2 281474976710656 ⟨#[]⟩ (by omega) (by omega) (by omega) (by decide) (by decide)).mono ?_
  rintro e w17 ⟨rfl, hb, hw⟩
  have B17 := Lib.hid (B16.out.next hw)
  have C17 := Lib.hid (show Buf w17 w16.heap.size 2 [] 281474976710656 from hb)
  have W17 := Lib.hid (bnext W16.out hw)
  have L17 := B16.out.lt
  replace D1 := Lib.hid (carry hw D1.out)
  clear hb hw W16 B16
  dsimp only
  go_wp2_with fail
  refine (bdiscard B17.out (by decide)).mono ?_
  rintro e w18 ⟨rfl, hb, hr⟩
  have N17 := W17.out.size
  have C18 := Lib.hid (C17.out.keep hr (.inr (by omega)))
  have N16 : w.heap.size ≤ w15.heap.size := by omega
  have W18 := Lib.hid (W17.out.trans (hr.low.mono N16))
  replace D1 := Lib.hid (hr.keep (.inl (by omega)) D1.out)
  obtain ⟨d0, d1, f0, f1⟩ := cell_two D1.out
  clear hb hr B17 W17 C17
  dsimp only
  go_wp2_with fail
  have hne : w16.heap.size ≠ w5.heap.size := by omega
  refine (bput_long (c := 97) ((C18.out.set hne).set hne) (by decide) (by decide)).mono ?_
  rintro e w19 ⟨rfl, hb⟩
  have W19 := Lib.hid (bnext (bset (bset W18.out N5 _) N5 _) hb)
  dsimp only
  go_wp2_with fail
  go_ret
  exact ⟨rfl, W19.out⟩
end Go.Proofs.Ytogdhmbdackeeaa
