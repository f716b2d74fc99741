import Derived.Test.YtogdhmbdackeeaaU
import Derived.Test.YtogdhmbdackeeaaT
namespace Go.Proofs.Ytogdhmbdackeeaa
open Go.RowKit
set_option linter.unusedVariables false

theorem reads_one {w : World} {c : Int} : Reads (w.alloc (.cells #[.int .u8 c] 5)) (.slice (some ⟨w.heap.size, 0, none⟩) 1 1) [c] := by
  refine ⟨_, 1, rfl, fun j hj => ⟨_, 0, rfl, ?_⟩⟩
  obtain rfl : j = 0 := by simpa using hj
  exact (cell_one (nw (w := w) (o := .cells #[.int .u8 c] 5))).1
theorem reads_cell {w w' : World} {sa : Option Addr} {n cap : Nat} {p : List Int} {j : Nat} (h : Reads w (.slice sa n cap) p) (hb : Below w.heap.size w w') (hj : j < p.length) :
    ∃ pb po, sa = some ⟨pb, po, none⟩ ∧ w'.cell? ⟨pb, po + j, none⟩ = some (.int .u8 (rd p j)) := by
  obtain ⟨sa', c, e, hc⟩ := h
  obtain ⟨pb, po, e2, hcell⟩ := hc j hj
  simp only [Value.slice.injEq] at e
  exact ⟨pb, po, by rw [e.1, e2], (hb.cell (p := ⟨pb, po + j, none⟩) (World.block_lt_of_cell? _ _ hcell)).trans hcell⟩

set_option maxRecDepth 100000 in
set_option maxHeartbeats 4000000 in
theorem keeps_true (n at1 : Int) (h0 : 0 ≤ n) (h1 : n ≤ 255) (a0 : 0 ≤ at1) (a1 : at1 ≤ 4294967295) (sa : Option Addr) (cap : Nat) (zs : List Int) (hz : Bytes zs) (hcap : zs.length ≤ cap) (hbig : cap ≤ 9223372036854775807)
    (ta : Option Addr) (tcap : Nat) (ts : List Int) (hts : Bytes ts) (htcap : ts.length ≤ tcap) (htbig : tcap ≤ 9223372036854775807) (w : World) (hr : Reads w (.slice sa zs.length cap) zs) (ht : Reads w (.slice ta ts.length tcap) ts) :
    Calls Try.prog 3 #[.int .u8 n, .int .u32 at1, .slice sa zs.length cap, .slice ta ts.length tcap] w fun e w' => e = .returned (.bool true) ∧ Below w.heap.size w w' := by
  obtain ⟨K, hK, K2, K256⟩ := sz_nat n h0 h1
  have HK := Lib.hid hK
  have HR := Lib.hid hr; have HT := Lib.hid ht; have HZ := Lib.hid hz; have HTS := Lib.hid hts
  clear hK hr ht hz hts
  go_enter Try.func3, Try.ntmps3
  go_wp2_with (first | (go_at_call 10; refine (awake_true _).mono ?_; rintro e w1 ⟨rfl, hb⟩; have W1 := Lib.hid hb; clear hb) | (go_at_call 12; refine (sz_isK h0 h1 HK.out _).mono ?_; rintro e w' ⟨rfl, rfl⟩))
  refine (bnew (K : Int) at1 (by omega) (by omega) (by omega) (by omega) _).mono ?_
  rintro e w2 ⟨rfl, hb, hw⟩
  have B2 := Lib.hid hb
  have W2 := Lib.hid (bnext W1.out hw)
  have L1 := W1.out.size
  have L2 := hb.lt
  obtain ⟨b, rfl⟩ : ∃ b, w1.heap.size = b := ⟨_, rfl⟩
  clear hb hw W1
  dsimp only
  go_upto_region 8 with fail
  obtain ⟨m, hm⟩ : ∃ m, m = min zs.length 500 := ⟨_, rfl⟩
  have HM := Lib.hid hm
  clear hm
  go_cut [46, 47, 48] (fun s46 s47 s48 wx => s46 = .slice sa m cap ∧ s47 = .int .i64 m ∧ s48 = .int .i64 0 ∧ wx = w2)
  case first =>
    go_wp2_with fail
    all_goals
      go_meet
      have hm := HM.out
      refine ⟨?_, ?_, rfl, rfl⟩
      · simp only [Value.slice.injEq, true_and, and_true]; omega
      · simp only [Value.int.injEq, true_and]; omega
  case rest =>
    obtain ⟨rfl, rfl, rfl, rfl⟩ := hcut
    have m0 : m ≤ zs.length := by have := HM.out; omega
    have m1 : m ≤ 500 := by have := HM.out; omega
    obtain ⟨p, hp⟩ : ∃ p, p = zs.take m := ⟨_, rfl⟩
    have hpl : p.length = m := by rw [hp]; simp; omega
    have RP := Lib.hid (show Reads w (.slice sa p.length cap) p from by rw [hpl, hp]; exact HR.out.take m0)
    have BP := Lib.hid (show Bytes p from by rw [hp]; exact fun x hx => HZ.out x (List.mem_of_mem_take hx))
    clear hp HR HZ HM
    subst hpl
    go_wp2_with fail
    obtain ⟨w2, rfl⟩ : ∃ w2 : World, w2 = wc := ⟨_, rfl⟩
    go_loopg [48, 11, 12, 13] p.length (fun gk i v u e wr => ∃ (k : Nat) (G H : List Int), k + gk = p.length ∧ i = .int .i64 k ∧ e = .int .i64 (at1 + G.length) ∧ KI w wr w2.heap.size w1.heap.size K u v G (p.take k) H (at1 + G.length) ∧ p.take k = G ++ H)
    case atStart => exact ⟨0, [], [], by omega, rfl, by simp, ⟨by simpa using B2.out, Row.nil, Row.nil, fun g h => by simp [Value.ownBlock] at h, L2, L1, Nat.le_refl _, W2.out⟩, rfl⟩
    case round =>
      obtain ⟨k, G, H, hk, rfl, rfl, hki, hP⟩ := hrel
      have HKK := Lib.hid hk
      obtain ⟨P, hPP⟩ : ∃ P, P = p.take k := ⟨_, rfl⟩
      rw [← hPP] at hki hP
      have HPP := Lib.hid hPP
      have hPl : P.length = k := by rw [hPP, List.length_take]; omega
      have HPL := Lib.hid hPl
      have HPE := Lib.hid hP
      have hGH : P.length = G.length + H.length := by rw [hP, List.length_append]
      have HGH := Lib.hid hGH
      have S1 := Lib.hid hki
      obtain ⟨so, co, rfl, hco⟩ := hki.put.le
      obtain ⟨go, gco, rfl, hgo⟩ := hki.gone.le
      have hHK := hki.buf.size_le.2.2.1
      clear hk hPP hPl hP hGH hki
      by_cases hlt : k < p.length
      · obtain ⟨pb, po, hsa, hcell⟩ := reads_cell RP.out S1.out.below hlt
        subst hsa
        have hc0 := BP.out (rd p k) (by simp [rd, hlt])
        obtain ⟨c, hc⟩ : ∃ c, c = rd p k := ⟨_, rfl⟩
        rw [← hc] at hcell hc0
        have HC := Lib.hid hc
        clear hc
        go_upto_if 56 with (fail)
        clear hcell
        have hGb : (G.length : Int) ≤ 500 := by have := HGH.out; have := HPL.out; omega
        have hkb : (k : Int) ≤ 500 := by omega
        obtain ⟨wo, rfl⟩ : ∃ wo : World, wo = wr := ⟨_, rfl⟩
        go_cut [12, 13] (fun u e wx => ∃ G' H' : List Int, e = .int .i64 (at1 + G'.length) ∧ KI w wx w2.heap.size w1.heap.size K u (.slice so P.length co) G' P H' (at1 + G'.length) ∧ P = G' ++ H')
        case first =>
          by_cases hi : k < ts.length
          · obtain ⟨tb, tof, hta, htcell⟩ := reads_cell HT.out S1.out.below hi
            subst hta
            have ht0 := HTS.out (rd ts k) (by simp [rd, hi])
            obtain ⟨t, htt⟩ : ∃ t : Nat, rd ts k = (t : Int) := ⟨(rd ts k).toNat, by omega⟩
            rw [htt] at htcell ht0
            clear htt
            have hsub : (P.length : Int) - (G.length : Int) = (H.length : Int) := by have := HGH.out; omega
            by_cases hT : t ≤ H.length
            · have hT2 : ¬ ((H.length : Int) < (t : Int)) := by omega
              go_wp2_with fail
              refine (btake (n := t) S1.out.buf hT).mono ?_
              rintro e w3 ⟨sv, rfl, hrow, hbuf, hr⟩
              obtain ⟨qo, qc, rfl, hqc⟩ := Row.le hrow
              obtain ⟨N, hN⟩ : ∃ N, N = H.take t := ⟨_, rfl⟩
              have hNl : (N.length : Int) = (t : Int) := by rw [hN, List.length_take]; omega
              rw [← hN] at hrow hqc ⊢
              have HN := Lib.hid hN
              have S3 := Lib.hid (S1.out.act hr hbuf)
              have RN := Lib.hid (Row.reads hrow)
              clear hrow hbuf hr hN htcell
              dsimp only
              go_upto_region 20 with fail
              have S4 := Lib.hid (S3.out.next (w' := (w3.alloc (.cells #[.int .i64 (at1 + G.length), .int .i64 (at1 + G.length + t)] 31)).drew) ((balloc (Below.refl _ _) _).drew))
              have RN4 := Lib.hid (RN.out.next (w' := (w3.alloc (.cells #[.int .i64 (at1 + G.length), .int .i64 (at1 + G.length + t)] 31)).drew) ((balloc (Below.refl _ _) _).drew))
              have e5 := (cell_two (show (w3.alloc (.cells #[.int .i64 (at1 + G.length), .int .i64 (at1 + G.length + t)] 31)).drew.heap[w3.heap.size]? = _ from nw)).2.1
              have e5b := (cell_two (show (w3.alloc (.cells #[.int .i64 (at1 + G.length), .int .i64 (at1 + G.length + t)] 31)).drew.heap[w3.heap.size]? = _ from nw)).2.1
              have hG5 : G.length ≤ 500 := by omega
              have hR3 := S3.out.rs
              go_region_held3 (fun w' => w'.cell? ⟨w3.heap.size, 1, none⟩ = some (.int .i64 (at1 + G.length + t)))
                (first | exact e5 | exact e7)
                (first
                  | (refine step_app rfl (.tmp 101) (.tmp 102) rfl rfl rfl S4.out.gone RN4.out (by omega) S4.out.rs ?_; intro u' w5 hrow5 hg5 hat5; have S5 := Lib.hid (S4.out.appU hrow5 hg5 hat5); have e7 : w5.cell? ⟨w3.heap.size, 1, none⟩ = some (.int .i64 (at1 + G.length + t)) := (World.cell?_of_block (hg5.block w3.heap.size (by simp) (fun e => by have := (row_lt S3.out.gone e.symm).2; omega))).trans e5b; clear hrow5 hg5 hat5))
              go_wp2_with fail
              go_meet
              have hE : at1 + (G.length : Int) + (t : Int) = at1 + ((G ++ N).length : Int) := by rw [List.length_append]; push_cast; omega
              refine ⟨G ++ N, H.drop t, by rw [hE], by rw [← hE]; exact S5.out, ?_⟩
              rw [HPE.out, HN.out, List.append_assoc, List.take_append_drop]
            · have hT2 : (H.length : Int) < (t : Int) := by omega
              have HT2 := Lib.hid hT2
              go_wp2_with fail
              refine (btake_bad S1.out.buf (.inr HT2.out)).mono ?_
              rintro e w3 ⟨rfl, hb⟩
              have S3 := Lib.hid ((S1.out.next hb).next (balloc (Below.refl _ _) (.cells #[.int .i64 0, .int .i64 0] 31)))
              clear hb
              dsimp only
              go_wp2_with fail
              go_meet
              exact ⟨G, H, rfl, S3.out, HPE.out⟩
          · go_wp2_with fail
            go_meet
            exact ⟨G, H, rfl, S1.out, HPE.out⟩
        case rest =>
          obtain ⟨G1, H1, rfl, hk1, hP1⟩ := hcut
          have hGH1 : P.length = G1.length + H1.length := by rw [hP1, List.length_append]
          have HGH1 := Lib.hid hGH1
          have HP1 := Lib.hid hP1
          have S1b := Lib.hid hk1
          obtain ⟨go1, gco1, rfl, hgo1⟩ := hk1.gone.le
          have hHK1 := hk1.buf.size_le.2.2.1
          have hG5 : G1.length ≤ 500 := by have := HPL.out; omega
          clear hGH1 hP1 hk1 S1 HGH HPE hHK hGb hgo
          obtain ⟨wd, rfl⟩ : ∃ wd : World, wd = wc := ⟨_, rfl⟩
          go_upto_if 107 with (go_at_call 14; refine (bfull S1b.out.buf).mono ?_; rintro e w3 ⟨rfl, hb⟩; have S3 := Lib.hid (S1b.out.next hb); clear hb)
          go_cut [12, 13] (fun u e wx => ∃ G' H' : List Int, e = .int .i64 (at1 + G'.length) ∧ KI w wx w2.heap.size w1.heap.size K u (.slice so P.length co) G' P H' (at1 + G'.length) ∧ P = G' ++ H' ∧ (H'.length : Int) < K)
          case first =>
            by_cases hfull : (H1.length : Int) = K
            · have hb1 : ((H1.length : Int) == (K : Int)) = true := by simpa using hfull
              have HF := Lib.hid hfull
              clear hfull
              obtain ⟨N, hN⟩ : ∃ N, N = H1.take ((K + 1) / 2) := ⟨_, rfl⟩
              have hNl : N.length = (K + 1) / 2 := by rw [hN, List.length_take]; have := HF.out; omega
              have HN := Lib.hid hN; have HNL := Lib.hid hNl
              have q1 : ((K : Int) + 1) / 2 = (N.length : Int) := by omega
              have hN256 : (N.length : Int) ≤ 256 := by omega
              have hNH : N.length ≤ H1.length := by have := HF.out; omega
              clear hN hNl
              go_wp2_with fail
              refine (bbytes S3.out.buf).mono ?_
              rintro e w4 ⟨ov, rfl, hrow, hb⟩
              obtain ⟨qo, qc, rfl, hqc⟩ := Row.le hrow
              have RO := Lib.hid (show Row w4 w3.heap.size (.slice qo H1.length qc) H1 from hrow)
              have S4 := Lib.hid (S3.out.next hb)
              clear hrow hb
              dsimp only
              go_wp2_with fail
              refine (bdiscardK (Q := N.length) S4.out.buf (by have := HF.out; omega) HNL.out).mono ?_
              rintro e w5 ⟨rfl, hb, hr⟩
              have lb3 := S3.out.buf.lt
              have RO5 := Lib.hid (RO.out.rg hr (by omega))
              have S5 := Lib.hid (S4.out.act hr hb)
              clear hb hr
              dsimp only
              go_upto_region 24 with fail
              have f0 : (at1 + (G1.length : Int)) + (N.length : Int) - (at1 + (G1.length : Int)) = (N.length : Int) := by omega
              have f1 : IntKind.i64.wrap ((K : Int) + 1) = (K : Int) + 1 := IntWalk.i64_in _ (by omega)
              have f2 : ((K : Int) + 1).tdiv 2 = (N.length : Int) := by rw [Int.tdiv_eq_ediv_of_nonneg (by omega)]; exact q1
              have f3 : IntKind.i64.wrap (N.length : Int) = (N.length : Int) := IntWalk.i64_in _ (by omega)
              have f4 : IntKind.i64.wrap (at1 + (G1.length : Int) + (N.length : Int)) = at1 + (G1.length : Int) + (N.length : Int) := IntWalk.i64_in _ (by omega)
              have f5 : decide ((H1.length : Int) < (N.length : Int)) = false := by simpa using (by omega : N.length ≤ H1.length)
              have f6 : decide (H1.length < N.length) = false := by simpa using hNH
              obtain ⟨e4, e5, _, _⟩ := cell_two (nw (w := w5) (o := .cells #[.int .i64 (at1 + (G1.length : Int)), .int .i64 (at1 + (G1.length : Int) + (N.length : Int))] 31))
              go_quiet ((go_at_call 12; exact Calls.quiet_of_same ((sz_isK h0 h1 HK.out _).mono fun e w' h => ⟨h.1, h.2.symm⟩)))
              go_wp2_with fail
              clear e4 e5 f1 f2 f4 f5 f6
              have bW : Below w5.heap.size w5 (((w5.alloc (.cells #[.int .i64 (at1 + (G1.length : Int)), .int .i64 (at1 + (G1.length : Int) + (N.length : Int))] 31)).drewN nq).drew) := (bdrewN (balloc (Below.refl _ _) _) _).drew
              have S6 := Lib.hid (S5.out.next bW)
              have RO6 := Lib.hid (RO5.out.next bW)
              have RN6 := Lib.hid (Row.reads (show Row (((w5.alloc (.cells #[.int .i64 (at1 + (G1.length : Int)), .int .i64 (at1 + (G1.length : Int) + (N.length : Int))] 31)).drewN nq).drew) w3.heap.size (.slice qo N.length qc) N from by
                have := RO6.out.take hNH
                rwa [show H1.take N.length = N by rw [HNL.out]; exact HN.out.symm] at this))
              clear bW
              have hN6 : (((w5.alloc (.cells #[.int .i64 (at1 + (G1.length : Int)), .int .i64 (at1 + (G1.length : Int) + (N.length : Int))] 31)).drewN nq).drew).heap[w5.heap.size]? = some (.cells #[.int .i64 (at1 + (G1.length : Int)), .int .i64 (at1 + (G1.length : Int) + (N.length : Int))] 31) := nw (w := w5)
              have HN6 := Lib.hid hN6
              obtain ⟨e4, e5, _, _⟩ := cell_two hN6
              clear hN6
              have hsl := fun W => slice_h W qo H1.length qc N.length (h := (N.length : Int)) rfl (by omega)
              have hR5 := S5.out.rs
              go_region_held3 (fun w' => w'.cell? ⟨w5.heap.size, 0, none⟩ = some (.int .i64 (at1 + (G1.length : Int))) ∧ w'.cell? ⟨w5.heap.size, 1, none⟩ = some (.int .i64 (at1 + (G1.length : Int) + (N.length : Int))))
                (first | exact ⟨e4, e5⟩ | exact ⟨e6, e7⟩)
                (first
                  | (refine step_app rfl (.tmp 144) (.tmp 151) rfl rfl rfl S6.out.gone RN6.out (by omega) S6.out.rs ?_; intro u' w7 hrow7 hg7 hat7; have S7 := Lib.hid (S6.out.appU hrow7 hg7 hat7); (obtain ⟨e6, e7, _, _⟩ := cell_two ((hg7.block w5.heap.size (lt_of_block HN6.out) (fun e => by have := (row_lt S5.out.gone e.symm).2; omega)).trans HN6.out)); clear hrow7 hg7 hat7))
              go_wp2_with fail
              go_meet
              have hE : at1 + (G1.length : Int) + (N.length : Int) = at1 + ((G1 ++ N).length : Int) := by rw [List.length_append]; push_cast; omega
              refine ⟨G1 ++ N, H1.drop N.length, by rw [hE], by rw [← hE]; exact S7.out, ?_, ?_⟩
              · have e : N ++ H1.drop N.length = H1 := by
                  rw [HNL.out]; rw [HN.out]; exact List.take_append_drop _ _
                rw [List.append_assoc, e]; exact HP1.out
              · rw [List.length_drop]; have := HF.out; have := HNL.out; omega
            · have hb1 : ((H1.length : Int) == (K : Int)) = false := by simpa using hfull
              go_wp2_with fail
              go_meet
              exact ⟨G1, H1, rfl, S3.out, HP1.out, by omega⟩
          case rest =>
            obtain ⟨G2, H2, rfl, hk2, hP2, hlt2⟩ := hcut
            have hGH2 : P.length = G2.length + H2.length := by rw [hP2, List.length_append]
            have HGH2 := Lib.hid hGH2
            have HP2 := Lib.hid hP2
            have S4 := Lib.hid hk2
            have hG2 : G2.length ≤ 500 := by have := HPL.out; omega
            have hH2 : H2.length ≤ 256 := by omega
            clear hGH2 hP2 hk2
            go_wp2_with fail
            refine (bput (c := c) S4.out.buf hlt2 (by omega)).mono ?_
            rintro e w5 ⟨rfl, hb, hr⟩
            have S5 := Lib.hid (S4.out.act hr hb)
            clear hb hr
            dsimp only
            have hPl5 : P.length ≤ 500 := by have := HPL.out; omega
            go_wp2_with (at_builtin; refine wpList_app (q := [c]) rfl (.tmp 159) (.tmp 161) rfl rfl rfl (S5.out.next (balloc (Below.refl _ _) (.cells #[.int .u8 c] 5))).put reads_one (by simp; omega) (by have := S5.out.rs; simp; omega) ?_; intro v' w6 hrow6 hg6 hat6; have S6 := Lib.hid ((S5.out.next (balloc (Below.refl _ _) (.cells #[.int .u8 c] 5))).appV hrow6 hg6 hat6); clear hrow6 hg6 hat6)
            obtain ⟨sv, cv, hv, hcv⟩ := S6.out.put.le
            rw [List.length_append, List.length_singleton] at hv
            subst hv
            refine (bpart_at (x := at1 + ((P.length : Int) + 1)) S6.out.buf (by have := HGH2.out; rw [List.length_append]; simp; omega)).mono ?_
            rintro e w7 ⟨rfl, hb⟩
            have S7 := Lib.hid (S6.out.next hb)
            clear hb
            dsimp only
            go_wp2_with fail
            have hk := HKK.out
            go_roundg (gk - 1)
            case rel =>
              have e : p.take (k + 1) = P ++ [c] := by
                rw [List.take_add_one, List.getElem?_eq_getElem hlt, HPP.out, HC.out]
                simp [rd, hlt]
              refine ⟨k + 1, G2, H2 ++ [c], by omega, by simp, rfl, ?_, ?_⟩
              · rw [e]; exact S7.out
              · rw [e, HP2.out, List.append_assoc]
            case measure => omega
      · obtain rfl : k = p.length := by have := HKK.out; omega
        have hPp : P = p := by have := HPP.out; rwa [List.take_length] at this
        have HPp := Lib.hid hPp
        have hGb : (G.length : Int) ≤ 500 := by have := HGH.out; have := HPL.out; omega
        clear hPp
        go_wp2_with fail
        refine (bbytes S1.out.buf).mono ?_
        rintro e w3 ⟨bv, rfl, hrow, hb⟩
        obtain ⟨qo, qc, rfl, hqc⟩ := Row.le hrow
        have RH := Lib.hid (Row.reads hrow)
        have S3 := Lib.hid (S1.out.next hb)
        have hH : H.length ≤ 256 := by omega
        clear hrow hb
        dsimp only
        go_wp2_with (at_builtin; refine wpList_app (q := H) rfl (.tmp 174) (.tmp 176) rfl rfl rfl S3.out.gone RH.out (by omega) S3.out.rs ?_; intro u' w6 hrow6 hg6 hat6; have S6 := Lib.hid (S3.out.appU hrow6 hg6 hat6); clear hrow6 hg6 hat6)
        have heq := equal_true (p := P) (u := u') (by rw [HPE.out]; exact S6.out.gone.reads) S6.out.put.reads (by rw [HPp.out]; exact BP.out)
        refine heq.mono ?_
        rintro e w7 ⟨rfl, rfl⟩
        clear heq
        dsimp only
        go_wp2_with fail
        go_ret
        exact ⟨rfl, S6.out.below⟩
end Go.Proofs.Ytogdhmbdackeeaa
