import Derived.Test.YtogdhmbdackeeaaTg
namespace Go.Proofs.Ytogdhmbdackeeaa
open Go.RowKit
set_option linter.unusedVariables false

set_option maxRecDepth 100000 in
set_option maxHeartbeats 4000000 in
theorem bufferDoes_true {w : World} {n : Nat} {sz a i : Int} {v : Value} (hs0 : -9223372036854775808 ≤ sz) (hs1 : sz ≤ 9223372036854775807) (ha0 : -9223372036854775808 ≤ a) (ha1 : a ≤ 9223372036854775807) (hi0 : -9223372036854775808 ≤ i) (hi1 : i ≤ 9223372036854775807)
    (hv : InActs w v n) : Calls Try.prog 8 #[.int .i64 sz, .int .i64 a, v, .int .i64 i] w fun e w' => e = .returned (.bool true) ∧ Below w.heap.size w w' := by
  obtain ⟨hacts, hn⟩ := hv
  unfold maxLen at hn hacts
  have HA := Lib.hid hacts
  obtain ⟨aa, cap, rfl, hjunk⟩ := hacts
  clear hjunk
  go_enter Try.func8, Try.ntmps8
  go_wp2_with fail
  go_loopg [13] n (fun gk x wr => ∃ k : Nat, k + gk = n ∧ x = .int .i64 k ∧ (0 < k → n ≤ 600) ∧ (∀ j, j < k → ∃ pb po, aa = some ⟨pb, po, none⟩ ∧ ActAt 300 w pb (po + j * 4)) ∧ Below w.heap.size w wr)
  case atStart => exact ⟨0, by omega, rfl, by omega, fun j hj => by omega, Below.refl _ _⟩
  case round =>
    obtain ⟨k, hk, rfl, hn6, hall, hb⟩ := hrel
    have HK := Lib.hid hk; have HN := Lib.hid hn6; have HALL := Lib.hid hall; have W3 := Lib.hid hb
    clear hk hn6 hall hb
    by_cases hlt : k < n
    · obtain ⟨aa', cap', e, hactall⟩ := HA.out
      obtain ⟨pb, po, e2, hact⟩ := hactall k hlt
      obtain rfl : aa = some ⟨pb, po, none⟩ := by simp only [Value.slice.injEq] at e; rw [e.1, e2]
      clear e e2 hactall
      obtain ⟨kind, c, N, bs, p, c0, c1, c2, c3, k0, k1, k2, k3, hr, hnl, hpl, hP⟩ := hact
      obtain ⟨ba, bc, hbs, hcell⟩ := hr
      subst hbs
      have HACT := Lib.hid (show p.length ≤ 300 → ActAt 300 w pb (po + k * 4) from fun hp => ⟨kind, c, N, _, p, c0, c1, c2, c3, k0, k1, k2, k3, ⟨ba, bc, rfl, hcell⟩, hnl, hp, hP⟩)
      clear hcell hnl hP
      have clt := World.block_lt_of_cell? _ _ c0
      replace c0 := (W3.out.cell (p := ⟨pb, po + k * 4, none⟩) clt).trans c0
      replace c1 := (W3.out.cell (p := ⟨pb, po + k * 4 + 1, none⟩) clt).trans c1
      replace c2 := (W3.out.cell (p := ⟨pb, po + k * 4 + 2, none⟩) clt).trans c2
      replace c3 := (W3.out.cell (p := ⟨pb, po + k * 4 + 3, none⟩) clt).trans c3
      have W4 := Lib.hid (balloc W3.out (.cells #[.int .u8 kind, .int .u8 c, .int .i64 N, .slice ba p.length bc] 57))
      by_cases h6 : (600 : Int) < n
      · go_wp2_with (go_at_call 10; refine (awake_true _).mono ?_; rintro e w5 ⟨rfl, hb⟩; have W5 := Lib.hid (bnext W4.out hb); clear hb)
        go_ret
        exact ⟨rfl, W5.out⟩
      · by_cases h3 : (300 : Int) < p.length
        · go_wp2_with (go_at_call 10; refine (awake_true _).mono ?_; rintro e w5 ⟨rfl, hb⟩; have W5 := Lib.hid (bnext W4.out hb); clear hb)
          go_ret
          exact ⟨rfl, W5.out⟩
        · go_wp2_with fail
          have hk := HK.out
          go_roundg (gk - 1)
          case rel =>
            refine ⟨k + 1, by omega, by simp, fun _ => by omega, fun j hj => ?_, W4.out⟩
            rcases Nat.lt_or_ge j k with h | h
            · exact HALL.out j h
            · obtain rfl : j = k := by omega
              exact ⟨pb, po, rfl, HACT.out (by omega)⟩
          case measure => omega
    · have hk := HK.out
      obtain rfl : k = n := by omega
      have hk6 : k ≤ 600 := by
        rcases Nat.eq_zero_or_pos k with h | h
        · omega
        · exact HN.out h
      have HACTS := Lib.hid (show Acts 300 w (.slice aa k cap) k from ⟨aa, cap, rfl, HALL.out⟩)
      clear hk
      go_wp2_with (first
        | (go_at_call 27; refine (does_true ha0 ha1 hi0 hi1 (HACTS.out.next W3.out) (by omega) (by omega)).mono ?_; rintro e w5 ⟨rfl, hb⟩; have W5 := Lib.hid (bnext W3.out hb); clear hb)
        | (go_at_call 10; refine (awake_true _).mono ?_; rintro e w6 ⟨rfl, hb⟩; have W6 := Lib.hid (bnext W5.out hb); clear hb))
      go_ret
      exact ⟨rfl, W6.out⟩
end Go.Proofs.Ytogdhmbdackeeaa
