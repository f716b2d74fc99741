import Derived.Test.YtogdhmbdackeeaaV
namespace Go.Proofs.Ytogdhmbdackeeaa
open Go.RowKit
set_option linter.unusedVariables false

theorem bput_any {w : World} {b : Nat} {s a c : Int} {l : List Int} (H : Buf w b s l a) :
    Calls Try.prog 17 #[at0 b, .int .u8 c] w fun e w' => ∃ x, e = .returned (.int .i64 x) ∧ ∃ l' a', Buf w' b s l' a' ∧ Rg b (b + 1) w w' := by
  have lb := H.lt
  obtain ⟨h1, h2, h3, h4, h5⟩ := H.size_le
  by_cases hf : (l.length : Int) = s
  · refine (bput_full H hf).mono ?_
    rintro e w' ⟨rfl, hb⟩
    exact ⟨_, rfl, l, a, H.next hb, Rg.below hb (by omega)⟩
  · by_cases hl : a + (l.length : Int) = 281474976710656
    · refine (bput_long H hf hl).mono ?_
      rintro e w' ⟨rfl, hb⟩
      exact ⟨_, rfl, l, a, H.next hb, Rg.below hb (by omega)⟩
    · refine (bput H (by omega) (by omega)).mono ?_
      rintro e w' ⟨rfl, hb, hr⟩
      exact ⟨_, rfl, _, _, hb, hr⟩
theorem btake_any {w : World} {b : Nat} {s a n : Int} {l : List Int} (H : Buf w b s l a) :
    Calls Try.prog 13 #[at0 b, .int .i64 n] w fun e w' => ∃ v x z, e = .returned (.tuple #[v, x, .int .i64 z]) ∧ ∃ l' a', Buf w' b s l' a' ∧ Rg b (b + 1) w w' := by
  have lb := H.lt
  by_cases hn : 0 ≤ n ∧ n ≤ l.length
  · obtain ⟨m, rfl⟩ : ∃ m : Nat, n = m := ⟨n.toNat, by omega⟩
    refine (btake (n := m) H (by omega)).mono ?_
    rintro e w' ⟨v, rfl, _, hb, hr⟩
    exact ⟨_, _, _, rfl, _, _, hb, hr⟩
  · refine (btake_bad H (by omega)).mono ?_
    rintro e w' ⟨rfl, hb⟩
    exact ⟨_, _, _, rfl, l, a, H.next hb, Rg.below hb (by omega)⟩
theorem bdisc_any {w : World} {b : Nat} {s a : Int} {l : List Int} (H : Buf w b s l a) :
    Calls Try.prog 16 #[at0 b] w fun e w' => ∃ x y, e = .returned (.tuple #[x, y]) ∧ ∃ l' a', Buf w' b s l' a' ∧ Rg b (b + 1) w w' := by
  have lb := H.lt
  by_cases hf : (l.length : Int) = s
  · refine (bdiscard H hf).mono ?_
    rintro e w' ⟨rfl, hb, hr⟩
    exact ⟨_, _, rfl, _, _, hb, hr⟩
  · refine (bdiscard_room H hf).mono ?_
    rintro e w' ⟨rfl, hb⟩
    exact ⟨_, _, rfl, l, a, H.next hb, Rg.below hb (by omega)⟩

set_option maxRecDepth 100000 in
set_option maxHeartbeats 4000000 in
theorem apart_true (n at1 : Int) (el : Bool) (h0 : 0 ≤ n) (h1 : n ≤ 255) (a0 : 0 ≤ at1) (a1 : at1 ≤ 4294967295) (sa : Option Addr) (cap : Nat) (zs : List Int) (hz : Bytes zs) (hcap : zs.length ≤ cap) (hbig : cap ≤ 9223372036854775807)
    (ta : Option Addr) (tcap : Nat) (ts : List Int) (hts : Bytes ts) (htcap : ts.length ≤ tcap) (htbig : tcap ≤ 9223372036854775807) (w : World) (hr : Reads w (.slice sa zs.length cap) zs) (ht : Reads w (.slice ta ts.length tcap) ts) :
    Calls Try.prog 7 #[.int .u8 n, .int .u32 at1, .slice sa zs.length cap, .slice ta ts.length tcap, .bool el] w fun e w' => e = .returned (.bool true) ∧ Below w.heap.size w w' := by
  obtain ⟨K, hK, K2, K256⟩ := sz_nat n h0 h1
  have HK := Lib.hid hK
  have HR := Lib.hid hr; have HT := Lib.hid ht; have HZ := Lib.hid hz; have HTS := Lib.hid hts
  clear hK hr ht hz hts
  go_enter Try.func7, Try.ntmps7
  go_wp2_with (first | (go_at_call 10; refine (awake_true _).mono ?_; rintro e w1 ⟨rfl, hb⟩; have W1 := Lib.hid hb; clear hb) | (go_at_call 12; refine (sz_isK h0 h1 HK.out _).mono ?_; rintro e w' ⟨rfl, rfl⟩))
  refine (bnew (K : Int) at1 (by omega) (by omega) (by omega) (by omega) _).mono ?_
  rintro e w2 ⟨rfl, hb, hw⟩
  have B2 := Lib.hid hb
  have W2 := Lib.hid (bnext W1.out hw)
  have L1 := W1.out.size
  have L2 := hb.lt
  obtain ⟨b, hbb⟩ : ∃ b, b = w1.heap.size := ⟨_, rfl⟩
  rw [← hbb] at B2 L1 L2
  rw [← hbb]
  clear hb hw W1 hbb
  dsimp only
  go_upto_region 6 with fail
  obtain ⟨m, hm⟩ : ∃ m, m = min zs.length 300 := ⟨_, rfl⟩
  have HM := Lib.hid hm
  clear hm
  go_cut [44, 45, 46] (fun s46 s47 s48 wx => s46 = .slice sa m cap ∧ s47 = .int .i64 m ∧ s48 = .int .i64 0 ∧ wx = w2)
  case first =>
    go_wp2_with fail
    all_goals
      go_meet
      have hm := HM.out
      refine ⟨?_, ?_, rfl, rfl⟩
      · simp only [Value.slice.injEq, true_and, and_true]; omega
      · simp only [Value.int.injEq, true_and]; omega
  case rest =>
    obtain ⟨rfl, rfl, rfl, rfl⟩ := hcut
    have m0 : m ≤ zs.length := by have := HM.out; omega
    have m1 : m ≤ 300 := by have := HM.out; omega
    obtain ⟨p, hp⟩ : ∃ p, p = zs.take m := ⟨_, rfl⟩
    have hpl : p.length = m := by rw [hp]; simp; omega
    have RP := Lib.hid (show Reads w (.slice sa p.length cap) p from by rw [hpl, hp]; exact HR.out.take m0)
    have BP := Lib.hid (show Bytes p from by rw [hp]; exact fun x hx => HZ.out x (List.mem_of_mem_take hx))
    clear hp HR HZ HM
    subst hpl
    obtain ⟨w2, rfl⟩ : ∃ w2 : World, w2 = wc := ⟨_, rfl⟩
    go_wp2_with fail
    go_loopg [46] p.length (fun gk i wr => ∃ (k : Nat) (H : List Int) (a : Int), k + gk = p.length ∧ i = .int .i64 k ∧ Buf wr b K H a ∧ Bytes H ∧ a + H.length = at1 + k ∧ Below w.heap.size w wr)
    case atStart => exact ⟨0, [], at1, by omega, rfl, B2.out, fun x hx => by simp at hx, by simp, W2.out⟩
    case round =>
      obtain ⟨k, H, a, hk, rfl, hbuf, hby, hsum, hbw⟩ := hrel
      have HKK := Lib.hid hk; have S1 := Lib.hid hbuf; have BH := Lib.hid hby; have HS := Lib.hid hsum; have W3 := Lib.hid hbw
      have hHK := hbuf.size_le
      clear hk hbuf hby hsum hbw
      by_cases hlt : k < p.length
      · obtain ⟨pb, po, hsa, hcell⟩ := reads_cell RP.out W3.out hlt
        subst hsa
        have hc0 := BP.out (rd p k) (by simp [rd, hlt])
        obtain ⟨c, hc⟩ : ∃ c, c = rd p k := ⟨_, rfl⟩
        rw [← hc] at hcell hc0
        clear hc
        go_upto_if 51 with (go_at_call 14; refine (bfull S1.out).mono ?_; rintro e w3 ⟨rfl, hb⟩; have S3 := Lib.hid (S1.out.next hb); have W4 := Lib.hid (bnext W3.out hb); clear hb)
        clear hcell
        go_cut [16] (fun s wx => ∃ (H' : List Int) (a' : Int), Buf wx b K H' a' ∧ Bytes H' ∧ a' + H'.length = at1 + k ∧ (H'.length : Int) < K ∧ Below w.heap.size w wx)
        case first =>
          by_cases hf : (H.length : Int) = K
          · have hb1 : ((H.length : Int) == (K : Int)) = true := by simpa using hf
            have HF := Lib.hid hf
            clear hf
            go_wp2_with fail
            refine (bdiscardK (Q := (K + 1) / 2) S3.out (by have := HF.out; omega) rfl).mono ?_
            rintro e w5 ⟨rfl, hb, hr⟩
            have S5 := Lib.hid (hb.alloc (.cells #[.int .i64 a, .int .i64 (a + (((K + 1) / 2 : Nat) : Int))] 31))
            have W5 := Lib.hid (balloc (W4.out.trans (hr.low.mono L1)) (.cells #[.int .i64 a, .int .i64 (a + (((K + 1) / 2 : Nat) : Int))] 31))
            clear hb hr
            dsimp only
            obtain ⟨Q, hQ⟩ : ∃ Q, Q = (K + 1) / 2 := ⟨_, rfl⟩
            rw [← hQ] at S5 W5
            rw [← hQ]
            have HQ := Lib.hid hQ
            clear hQ
            go_wp2_with fail
            go_meet
            refine ⟨_, _, S5.out, fun x hx => BH.out x (List.mem_of_mem_drop hx), ?_, ?_, W5.out⟩
            · have := HS.out; have := HF.out; have := HQ.out; rw [List.length_drop]; omega
            · have := HF.out; have := HQ.out; rw [List.length_drop]; omega
          · have hb1 : ((H.length : Int) == (K : Int)) = false := by simpa using hf
            go_wp2_with fail
            go_meet
            exact ⟨H, a, S3.out, BH.out, HS.out, by omega, W4.out⟩
        case rest =>
          obtain ⟨H2, a2, hb2, hby2, hsum2, hlt2, hbw2⟩ := hcut
          have S4 := Lib.hid hb2; have BH2 := Lib.hid hby2; have HS2 := Lib.hid hsum2; have W5 := Lib.hid hbw2
          clear hb2 hby2 hsum2 hbw2
          go_wp2_with fail
          refine (bput (c := c) S4.out hlt2 (by have := HS2.out; omega)).mono ?_
          rintro e w5 ⟨rfl, hb, hr⟩
          have S5 := Lib.hid hb
          have W6 := Lib.hid (W5.out.trans (hr.low.mono L1))
          clear hb hr
          dsimp only
          go_wp2_with fail
          have hk := HKK.out
          go_roundg (gk - 1)
          case rel =>
            refine ⟨k + 1, H2 ++ [c], a2, by omega, by simp, S5.out, ?_, ?_, W6.out⟩
            · intro x hx
              rcases List.mem_append.1 hx with h | h
              · exact BH2.out x h
              · obtain rfl : x = c := by simpa using h
                exact hc0
            · have := HS2.out; rw [List.length_append]; simp; omega
          case measure => omega
      · go_wp2_with fail
        obtain ⟨wo, rfl⟩ : ∃ wo : World, wo = wr := ⟨_, rfl⟩
        refine (bcopy S1.out).mono ?_
        rintro e w5 ⟨rfl, hc, hb⟩
        obtain ⟨c, hcc⟩ : ∃ c, c = wo.heap.size := ⟨_, rfl⟩
        have hbc : b < c := by rw [hcc]; exact S1.out.lt
        rw [← hcc] at hc
        have C5 := Lib.hid hc
        have B5 := Lib.hid (S1.out.next hb)
        have W5 := Lib.hid (bnext W3.out hb)
        have hcw : w.heap.size ≤ c := by rw [hcc]; exact W3.out.size
        rw [← hcc]
        clear hc hb hcc
        dsimp only
        go_wp2_with fail
        refine (bpart C5.out).mono ?_
        rintro e w6 ⟨rfl, hb⟩
        have C6 := Lib.hid (C5.out.next hb)
        have B6 := Lib.hid (B5.out.next hb)
        have W6 := Lib.hid (bnext W5.out hb)
        clear hb C5 B5
        dsimp only
        go_wp2_with fail
        refine (bpart B6.out).mono ?_
        rintro e w7 ⟨rfl, hb⟩
        have C7 := Lib.hid (C6.out.next hb)
        have B7 := Lib.hid (B6.out.next hb)
        have W7 := Lib.hid (bnext W6.out hb)
        clear hb C6 B6
        dsimp only
        go_wp2_with fail
        refine (bsize C7.out).mono ?_
        rintro e w' ⟨rfl, rfl⟩
        dsimp only
        go_wp2_with fail
        refine (bsize B7.out).mono ?_
        rintro e w' ⟨rfl, rfl⟩
        dsimp only
        go_wp2_with fail
        refine (bbytes C7.out).mono ?_
        rintro e w8 ⟨v1, rfl, hrow, hb⟩
        have R8 := Lib.hid (show Row w8 w7.heap.size v1 H from hrow)
        have C8 := Lib.hid (C7.out.next hb)
        have B8 := Lib.hid (B7.out.next hb)
        have W8 := Lib.hid (bnext W7.out hb)
        clear hrow hb C7 B7
        dsimp only
        go_wp2_with fail
        refine (bbytes B8.out).mono ?_
        rintro e w9 ⟨v2, rfl, hrow, hb⟩
        have Q9 := Lib.hid (show Row w9 w8.heap.size v2 H from hrow)
        have R9 := Lib.hid (R8.out.next hb)
        have C9 := Lib.hid (C8.out.next hb)
        have B9 := Lib.hid (B8.out.next hb)
        have W9 := Lib.hid (bnext W8.out hb)
        clear hrow hb C8 B8 R8
        dsimp only
        go_wp2_with fail
        refine (equal_true R9.out.reads Q9.out.reads BH.out).mono ?_
        rintro e w' ⟨rfl, rfl⟩
        dsimp only
        go_upto_if 92 with (fail)
        go_cut [18, 19] (fun s18 s19 wx => ∃ s g : Nat, s18 = at0 s ∧ s19 = at0 g ∧ s ≠ g ∧ Buf wx s K H a ∧ Buf wx g K H a ∧ w.heap.size ≤ g ∧ wx = w9)
        case first =>
          cases el
          · go_wp2_with fail
            go_meet
            exact ⟨c, b, rfl, rfl, by omega, C9.out, B9.out, L1, rfl⟩
          · go_wp2_with fail
            go_meet
            exact ⟨b, c, rfl, rfl, by omega, B9.out, C9.out, hcw, rfl⟩
        case rest =>
          obtain ⟨s, g, rfl, rfl, hsg, hbs, hbg, hgw, rfl⟩ := hcut
          have S10 := Lib.hid hbs; have G10 := Lib.hid hbg
          obtain ⟨w9, rfl⟩ : ∃ w9 : World, w9 = wc := ⟨_, rfl⟩
          clear hbs hbg C9 B9 R9 Q9 hbc hcw
          go_wp2_with fail
          refine (bpart S10.out).mono ?_
          rintro e w10 ⟨rfl, hb⟩
          have S11 := Lib.hid (S10.out.next hb)
          have G11 := Lib.hid (G10.out.next hb)
          have W10 := Lib.hid (bnext W9.out hb)
          clear hb S10 G10
          dsimp only
          go_wp2_with fail
          refine (bbytes S11.out).mono ?_
          rintro e w11 ⟨v, rfl, hrow, hb⟩
          have hgl := G11.out.lt
          obtain ⟨w12, hw12⟩ : ∃ w12, w12 = w11.alloc (.cells #[.int .i64 a, .int .i64 (a + H.length)] 31) := ⟨_, rfl⟩
          have V12 := Lib.hid (show Row w12 w10.heap.size v H by rw [hw12]; exact hrow.alloc _)
          have S12 := Lib.hid (show Buf w12 s K H a by rw [hw12]; exact (S11.out.next hb).alloc _)
          have G12 := Lib.hid (show Buf w12 g K H a by rw [hw12]; exact (G11.out.next hb).alloc _)
          have P12 := Lib.hid (show w12.heap[w11.heap.size]? = some (.cells #[.int .i64 a, .int .i64 (a + H.length)] 31) by rw [hw12]; exact nw)
          have W12 := Lib.hid (show Below w.heap.size w w12 by rw [hw12]; exact balloc (bnext W10.out hb) _)
          have hgp : g < w11.heap.size := Nat.lt_of_lt_of_le hgl hb.size
          obtain ⟨pbk, hpbk⟩ : ∃ pbk, pbk = w11.heap.size := ⟨_, rfl⟩
          rw [← hpbk] at P12 hgp
          clear hrow hb S11 G11
          dsimp only
          go_upto_region 23 with fail
          rw [← hw12, ← hpbk]
          clear hw12 hpbk
          obtain ⟨m2, hm2⟩ : ∃ m2, m2 = min ts.length 60 := ⟨_, rfl⟩
          have HM2 := Lib.hid hm2
          clear hm2
          go_cut [103, 104, 105] (fun s46 s47 s48 wx => s46 = .slice ta m2 tcap ∧ s47 = .int .i64 m2 ∧ s48 = .int .i64 0 ∧ wx = w12)
          case first =>
            go_wp2_with fail
            all_goals
              go_meet
              have hm := HM2.out
              refine ⟨?_, ?_, rfl, rfl⟩
              · simp only [Value.slice.injEq, true_and, and_true]; omega
              · simp only [Value.int.injEq, true_and]; omega
          case rest =>
            obtain ⟨rfl, rfl, rfl, rfl⟩ := hcut
            have q0 : m2 ≤ ts.length := by have := HM2.out; omega
            have q1 : m2 ≤ 60 := by have := HM2.out; omega
            obtain ⟨q, hq⟩ : ∃ q, q = ts.take m2 := ⟨_, rfl⟩
            have hql : q.length = m2 := by rw [hq]; simp; omega
            have RT := Lib.hid (show Reads w (.slice ta q.length tcap) q from by rw [hql, hq]; exact HT.out.take q0)
            have BT := Lib.hid (show Bytes q from by rw [hq]; exact fun x hx => HTS.out x (List.mem_of_mem_take hx))
            clear hq HM2
            subst hql
            obtain ⟨w12, rfl⟩ : ∃ w12 : World, w12 = wc := ⟨_, rfl⟩
            obtain ⟨gk1, rfl⟩ : ∃ gk1 : Nat, gk1 = gk := ⟨_, rfl⟩
            go_wp2_with fail
            go_loopg [105] q.length (fun gk i wr => ∃ (k : Nat) (l' : List Int) (a' : Int), k + gk = q.length ∧ i = .int .i64 k ∧ Buf wr s K H a ∧ Buf wr g K l' a' ∧ Row wr w10.heap.size v H ∧ wr.heap[pbk]? = some (.cells #[.int .i64 a, .int .i64 (a + H.length)] 31) ∧ Below w.heap.size w wr)
            case atStart => exact ⟨0, H, a, by omega, rfl, S12.out, G12.out, V12.out, P12.out, W12.out⟩
            case round =>
              obtain ⟨k2, l', a', hk, rfl, hs, hg, hv, hp, hbw⟩ := hrel
              have HK2 := Lib.hid hk; have S1 := Lib.hid hs; have G1 := Lib.hid hg; have V1 := Lib.hid hv; have P1 := Lib.hid hp; have W14 := Lib.hid hbw
              clear hk hs hg hv hp hbw
              by_cases hlt2 : k2 < q.length
              · obtain ⟨pb, po, hsa, hcell⟩ := reads_cell RT.out W14.out hlt2
                subst hsa
                have ht0 := BT.out (rd q k2) (by simp [rd, hlt2])
                obtain ⟨t, htt⟩ : ∃ t, t = rd q k2 := ⟨_, rfl⟩
                rw [← htt] at hcell ht0
                obtain ⟨ht1, ht2⟩ := ht0
                clear htt
                have h3 : t % 3 = 0 ∨ t % 3 = 1 ∨ t % 3 = 2 := by omega
                rcases h3 with h3 | h3 | h3
                · go_wp2_with fail
                  refine (bput_any G1.out).mono ?_
                  rintro e w13 ⟨x, rfl, l2, a2, hb, hr⟩
                  have S13 := Lib.hid (S1.out.keep hr (by omega))
                  have V13 := Lib.hid (V1.out.rg hr (by omega))
                  have P13 := Lib.hid (hr.keep (.inr (by omega)) P1.out)
                  have G13 := Lib.hid hb
                  have W13 := Lib.hid (W14.out.trans (hr.low.mono hgw))
                  clear hb hr hcell
                  dsimp only
                  go_upto_region 32 with fail
                  obtain ⟨e4, e5, _, _⟩ := cell_two (show w13.drew.heap[pbk]? = some (.cells #[.int .i64 a, .int .i64 (a + H.length)] 31) from P13.out)
                  have S15 := Lib.hid (show Buf w13.drew s K H a from S13.out.drew)
                  have W15 := Lib.hid (show Below w.heap.size w w13.drew from W13.out.drew)
                  go_region_held3 (fun w' => w'.cell? ⟨pbk, 0, none⟩ = some (.int .i64 a) ∧ w'.cell? ⟨pbk, 1, none⟩ = some (.int .i64 (a + H.length)))
                    (first | exact ⟨e4, e5⟩ | exact ⟨e6, e7⟩ | exact ⟨e8, e9⟩)
                    (first
                      | (go_at_call 18; refine (bpart S15.out).mono ?_; rintro e w14 ⟨rfl, hb⟩; have S16 := Lib.hid (S15.out.next hb); have V16 := Lib.hid ((show Row w13.drew w10.heap.size v H from V13.out).next hb); have G16 := Lib.hid ((show Buf w13.drew g K l2 a2 from G13.out).next hb); have W16 := Lib.hid (bnext W15.out hb); have P16 := Lib.hid (carry hb (show w13.drew.heap[pbk]? = some (.cells #[.int .i64 a, .int .i64 (a + H.length)] 31) from P13.out)); (obtain ⟨e6, e7, _, _⟩ := cell_two P16.out); clear hb)
                      | (go_at_call 15; refine (bbytes S16.out).mono ?_; rintro e w15 ⟨v3, rfl, hrow, hb⟩; have R17 := Lib.hid (show Row w15 w14.heap.size v3 H from hrow); have S17 := Lib.hid (S16.out.next hb); have V17 := Lib.hid (V16.out.next hb); have G17 := Lib.hid (G16.out.next hb); have W17 := Lib.hid (bnext W16.out hb); have P17 := Lib.hid (carry hb P16.out); (obtain ⟨e8, e9, _, _⟩ := cell_two P17.out); clear hb hrow)
                      | (go_at_call 19; refine (equal_true R17.out.reads V17.out.reads BH.out).mono ?_; rintro e w16 ⟨rfl, rfl⟩))
                  go_wp2_with fail
                  have hk := HK2.out
                  go_roundg (gk - 1)
                  case rel => exact ⟨k2 + 1, _, _, by omega, by simp, S17.out, G17.out, V17.out, P17.out, W17.out⟩
                  case measure => omega
                · go_wp2_with fail
                  refine (btake_any G1.out).mono ?_
                  rintro e w13 ⟨x, y, z, rfl, l2, a2, hb, hr⟩
                  have S13 := Lib.hid (S1.out.keep hr (by omega))
                  have V13 := Lib.hid (V1.out.rg hr (by omega))
                  have P13 := Lib.hid (hr.keep (.inr (by omega)) P1.out)
                  have G13 := Lib.hid hb
                  have W13 := Lib.hid (W14.out.trans (hr.low.mono hgw))
                  clear hb hr hcell
                  dsimp only
                  go_upto_region 32 with fail
                  obtain ⟨e4, e5, _, _⟩ := cell_two (show w13.drew.heap[pbk]? = some (.cells #[.int .i64 a, .int .i64 (a + H.length)] 31) from P13.out)
                  have S15 := Lib.hid (show Buf w13.drew s K H a from S13.out.drew)
                  have W15 := Lib.hid (show Below w.heap.size w w13.drew from W13.out.drew)
                  go_region_held3 (fun w' => w'.cell? ⟨pbk, 0, none⟩ = some (.int .i64 a) ∧ w'.cell? ⟨pbk, 1, none⟩ = some (.int .i64 (a + H.length)))
                    (first | exact ⟨e4, e5⟩ | exact ⟨e6, e7⟩ | exact ⟨e8, e9⟩)
                    (first
                      | (go_at_call 18; refine (bpart S15.out).mono ?_; rintro e w14 ⟨rfl, hb⟩; have S16 := Lib.hid (S15.out.next hb); have V16 := Lib.hid ((show Row w13.drew w10.heap.size v H from V13.out).next hb); have G16 := Lib.hid ((show Buf w13.drew g K l2 a2 from G13.out).next hb); have W16 := Lib.hid (bnext W15.out hb); have P16 := Lib.hid (carry hb (show w13.drew.heap[pbk]? = some (.cells #[.int .i64 a, .int .i64 (a + H.length)] 31) from P13.out)); (obtain ⟨e6, e7, _, _⟩ := cell_two P16.out); clear hb)
                      | (go_at_call 15; refine (bbytes S16.out).mono ?_; rintro e w15 ⟨v3, rfl, hrow, hb⟩; have R17 := Lib.hid (show Row w15 w14.heap.size v3 H from hrow); have S17 := Lib.hid (S16.out.next hb); have V17 := Lib.hid (V16.out.next hb); have G17 := Lib.hid (G16.out.next hb); have W17 := Lib.hid (bnext W16.out hb); have P17 := Lib.hid (carry hb P16.out); (obtain ⟨e8, e9, _, _⟩ := cell_two P17.out); clear hb hrow)
                      | (go_at_call 19; refine (equal_true R17.out.reads V17.out.reads BH.out).mono ?_; rintro e w16 ⟨rfl, rfl⟩))
                  go_wp2_with fail
                  have hk := HK2.out
                  go_roundg (gk - 1)
                  case rel => exact ⟨k2 + 1, _, _, by omega, by simp, S17.out, G17.out, V17.out, P17.out, W17.out⟩
                  case measure => omega
                · go_wp2_with fail
                  refine (bdisc_any G1.out).mono ?_
                  rintro e w13 ⟨x, y, rfl, l2, a2, hb, hr⟩
                  have S13 := Lib.hid (S1.out.keep hr (by omega))
                  have V13 := Lib.hid (V1.out.rg hr (by omega))
                  have P13 := Lib.hid (hr.keep (.inr (by omega)) P1.out)
                  have G13 := Lib.hid hb
                  have W13 := Lib.hid (W14.out.trans (hr.low.mono hgw))
                  clear hb hr hcell
                  dsimp only
                  go_upto_region 32 with fail
                  obtain ⟨e4, e5, _, _⟩ := cell_two (show w13.drew.heap[pbk]? = some (.cells #[.int .i64 a, .int .i64 (a + H.length)] 31) from P13.out)
                  have S15 := Lib.hid (show Buf w13.drew s K H a from S13.out.drew)
                  have W15 := Lib.hid (show Below w.heap.size w w13.drew from W13.out.drew)
                  go_region_held3 (fun w' => w'.cell? ⟨pbk, 0, none⟩ = some (.int .i64 a) ∧ w'.cell? ⟨pbk, 1, none⟩ = some (.int .i64 (a + H.length)))
                    (first | exact ⟨e4, e5⟩ | exact ⟨e6, e7⟩ | exact ⟨e8, e9⟩)
                    (first
                      | (go_at_call 18; refine (bpart S15.out).mono ?_; rintro e w14 ⟨rfl, hb⟩; have S16 := Lib.hid (S15.out.next hb); have V16 := Lib.hid ((show Row w13.drew w10.heap.size v H from V13.out).next hb); have G16 := Lib.hid ((show Buf w13.drew g K l2 a2 from G13.out).next hb); have W16 := Lib.hid (bnext W15.out hb); have P16 := Lib.hid (carry hb (show w13.drew.heap[pbk]? = some (.cells #[.int .i64 a, .int .i64 (a + H.length)] 31) from P13.out)); (obtain ⟨e6, e7, _, _⟩ := cell_two P16.out); clear hb)
                      | (go_at_call 15; refine (bbytes S16.out).mono ?_; rintro e w15 ⟨v3, rfl, hrow, hb⟩; have R17 := Lib.hid (show Row w15 w14.heap.size v3 H from hrow); have S17 := Lib.hid (S16.out.next hb); have V17 := Lib.hid (V16.out.next hb); have G17 := Lib.hid (G16.out.next hb); have W17 := Lib.hid (bnext W16.out hb); have P17 := Lib.hid (carry hb P16.out); (obtain ⟨e8, e9, _, _⟩ := cell_two P17.out); clear hb hrow)
                      | (go_at_call 19; refine (equal_true R17.out.reads V17.out.reads BH.out).mono ?_; rintro e w16 ⟨rfl, rfl⟩))
                  go_wp2_with fail
                  have hk := HK2.out
                  go_roundg (gk - 1)
                  case rel => exact ⟨k2 + 1, _, _, by omega, by simp, S17.out, G17.out, V17.out, P17.out, W17.out⟩
                  case measure => omega
              · have hk := HK2.out
                obtain rfl : k2 = q.length := by omega
                clear hk
                go_wp2_with fail
                go_ret
                exact ⟨rfl, W14.out⟩
end Go.Proofs.Ytogdhmbdackeeaa
