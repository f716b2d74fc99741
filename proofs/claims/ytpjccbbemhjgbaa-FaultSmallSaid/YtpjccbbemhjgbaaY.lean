import Derived.Test.YtpjccbbemhjgbaaV
import Derived.Test.YtpjccbbemhjgbaaW
namespace Go.Proofs.Ytpjccbbemhjgbaa
open Go.RowKit
set_option linter.unusedVariables false

/-- A slice of slices of steps. -/
def ReadsSS (w : World) (v : Value) (ls : List (List Stp)) : Prop :=
  ∃ sa c, v = .slice sa ls.length c ∧ ∀ (j : Nat) (xs : List Stp), ls[j]? = some xs → ∃ pb po s, sa = some ⟨pb, po, none⟩ ∧ w.cell? ⟨pb, po + j, none⟩ = some s ∧ Reads3 w s xs
def WfSS (ls : List (List Stp)) : Prop := ∀ xs ∈ ls, WfS xs ∧ xs.length ≤ 12

theorem Clo.wide {T : Rs} {i f : Int} {p q : Nat} {w w0 w1 w2 : World} (hv : q + 4 < w.heap.size) (hp : p < w.heap.size) (h0 : Below w.heap.size w w0) (h : Clo T i f p q w0 w1) (h2 : Below w.heap.size w1 w2) : Clo T i f p q w w2 := by
  have kp : ∀ {j : Nat} {o : Obj}, j < w.heap.size → w1.heap[j]? = some o → w2.heap[j]? = some o := fun hj ho => (h2.block _ hj).trans ho
  exact ⟨kp hp h.meter, kp (by omega) h.done, kp (by omega) h.x, kp (by omega) h.is, kp (by omega) h.er, kp hv h.value,
    ⟨h2.os.trans (h.fr.os.trans h0.os), h2.tape.trans (h.fr.tape.trans h0.tape), h2.output.trans (h.fr.output.trans h0.output), Nat.le_trans h0.size (Nat.le_trans h.fr.size h2.size),
      fun k hk a b => (h2.block k hk).trans ((h.fr.block k (Nat.lt_of_lt_of_le hk h0.size) a b).trans (h0.block k hk))⟩⟩

def OutR (K : Int) (e : Ending) : Prop := (0 ≤ K ∧ K ≤ 2 ∧ e = .returned .nilIface) ∨ (K = 9 ∧ ∃ t x, e = .returned (.iface t x) ∧ (t = 25 ∧ x = .int .i64 350 ∨ t = 8))
theorem out54 {w : World} {B p q bi bm bs : Nat} {f l u d i : Int} {xs : List Stp} {sv : Value} (h : Rdy w B p q f l u d xs sv) (i0 : 0 ≤ i) (i1 : i ≤ 1000)
    (hi : w.heap[bi]? = some (.cells #[.int .i64 i] 3 (0, 0))) (hm : w.heap[bm]? = some (.cells #[.pointer (some ⟨p, 0, none⟩)] 56 (0, 0))) (hs : w.heap[bs]? = some (.cells #[sv] 43 (0, 0)))
    (hx : w.heap[q + 1]? = some (.cells #[.int .u8 0, .int .i64 0] 23 (0, 0))) (his : w.heap[q + 2]? = some (.cells #[.bool false] 4 (0, 0))) (hf : w.heap[q + 3]? = some (.cells #[.int .i64 0] 25 (0, 0))) (hv : w.heap[q + 4]? = some (.cells #[.int .i64 0] 3 (0, 0))) (hpq : p < q) :
    Calls Try.prog 11 #[.func (.func 54) #[] #[.pointer (some ⟨bi, 0, none⟩), .pointer (some ⟨bm, 0, none⟩), .pointer (some ⟨bs, 0, none⟩), .pointer (some ⟨q, 0, none⟩), .pointer (some ⟨q + 1, 0, none⟩), .pointer (some ⟨q + 2, 0, none⟩), .pointer (some ⟨q + 3, 0, none⟩), .pointer (some ⟨q + 4, 0, none⟩)]] w
      fun e w' => OutR (run f l u d xs).2.2.2.1 e ∧ Clo (run f l u d xs) i f p q w w' := by
  have lv := lt_of_block hv
  have lp := lt_of_block h.meter
  refine outside_calls ent54 (fun w0 hb => (f54_is (h.next hb) i0 i1 (carry hb hi) (carry hb hm) (carry hb hs) (carry hb hx) (carry hb his) (carry hb hf) (carry hb hv) hpq).mono ?_)
  rintro e w1 ⟨he, hc⟩
  refine ⟨⟨hc.fr.size, fun k h1 h2 => hc.fr.block k h2 (by omega) (by omega)⟩, ?_⟩
  rcases he with ⟨k0, k2, rfl⟩ | ⟨k9, t, x, older, rfl, htx, ho⟩
  · exact ⟨_, .ret, fun w2 h2 => ⟨.inl ⟨k0, k2, rfl⟩, Clo.wide lv lp hb hc h2⟩⟩
  · exact ⟨_, .panic t x older ho, fun w2 h2 => ⟨.inr ⟨k9, t, x, rfl, htx⟩, Clo.wide lv lp hb hc h2⟩⟩

/-- What stands at the head of a round of 'runs'. -/
structure RB (w wr : World) (F L U D K M : Int) : Prop where
  meter : meterAt wr w.heap.size F L U
  box : wr.heap[w.heap.size + 1]? = some (.cells #[.pointer (some ⟨w.heap.size, 0, none⟩)] 56 (0, 0))
  ref : wr.heap[w.heap.size + 2]? = some (.cells (st6 F L U D K M) 76 (0, 0))
  below : Below w.heap.size w wr
theorem RB.next {w wr w' : World} {F L U D K M : Int} (h : RB w wr F L U D K M) (hb : Below wr.heap.size wr w') : RB w w' F L U D K M :=
  ⟨carry hb h.meter, carry hb h.box, carry hb h.ref, h.below.trans (hb.mono h.below.size)⟩

set_option maxRecDepth 100000 in
theorem runs_bad {w : World} (F : Int) (v : Value) (h : F < 0 ∨ 1048576 < F) : Calls Try.prog 24 #[.int .i64 F, v] w fun e w' => e = .returned (.bool true) ∧ Below w.heap.size w w' := by
  have H := Lib.hid h
  by_cases h0 : F < 0
  · clear h
    go_enter Try.func24, Try.ntmps24
    go_wp2_with (go_at_call 37; refine (newMeter_bad _ H.out _).mono ?_; rintro e w' ⟨rfl, rfl⟩)
    go_ret
    exact ⟨rfl, balloc (Below.refl _ _) _⟩
  · have h1 : 1048576 < F := by omega
    clear h
    go_enter Try.func24, Try.ntmps24
    go_wp2_with (go_at_call 37; refine (newMeter_bad _ H.out _).mono ?_; rintro e w' ⟨rfl, rfl⟩)
    go_ret
    exact ⟨rfl, balloc (Below.refl _ _) _⟩

theorem quiet_add_left {P : Program} {f : FuncId} {args : Array Value} {w : World} {a n : Nat} {v : Value}
    (h : Calls P f args (w.drewN (a + n)) fun e w' => e = .returned v ∧ w.drewN (a + n) = w') :
    Calls P f args (w.drewN (a + n)) fun e w'' => e = .returned v ∧ ∃ m, w'' = w.drewN (a + m) :=
  h.mono fun _ _ ⟨he, hm⟩ => ⟨he, n, hm.symm⟩
theorem bdn {B : Nat} {a w : World} (n : Nat) (h : Below B a w) : Below B a (w.drewN n) := ⟨h.os, h.tape, h.output, h.size, h.block⟩

set_option maxRecDepth 100000 in
set_option maxHeartbeats 40000000 in
theorem runs_good {w : World} (F : Int) (ls : List (List Stp)) (hwf : WfSS ls) (hlen : ls.length ≤ 12) (v : Value) (hr : ReadsSS w v ls) (f0 : 0 ≤ F) (f1 : F ≤ 1048576) :
    Calls Try.prog 24 #[.int .i64 F, v] w fun e w' => e = .returned (.bool true) ∧ Below w.heap.size w w' := by
  have HR := Lib.hid hr
  have HWF := Lib.hid hwf
  obtain ⟨sa, c, rfl, hc⟩ := hr
  clear hc hwf
  go_enter Try.func24, Try.ntmps24
  have hF0 : ¬ F < 0 := by omega
  have hF1 : ¬ 1048576 < F := by omega
  go_wp2_with (go_at_call 37; refine (newMeter_ok _ f0 f1 _).mono ?_; rintro e w' ⟨rfl, rfl⟩)
  go_loopg [48] ls.length (fun gk i wr => ∃ j : Nat, j + gk = ls.length ∧ i = .int .i64 j ∧ ∃ L U D K M, RB w wr F L U D K M ∧ 0 ≤ L ∧ L ≤ 1048576 ∧ 0 ≤ U ∧ U ≤ 20000000 * j)
  case atStart => exact ⟨0, by omega, rfl, F, 0, 0, 0, 0, ⟨al (al nw), al nw1, nwk (by simp), balloc (balloc (balloc (Below.refl _ _) _) _) _⟩, f0, f1, by omega, by omega⟩
  case round =>
    obtain ⟨j, hj, rfl, L, U, D, K, M, hrb, l0, l1, u0, u1⟩ := hrel
    have RB1 := Lib.hid hrb; have HJ := Lib.hid hj
    clear hj hrb hF0 hF1
    by_cases hlt : j < ls.length
    · obtain ⟨xs, hx⟩ : ∃ xs, ls[j]? = some xs := ⟨_, List.getElem?_eq_getElem hlt⟩
      have hrr := HR.out
      obtain ⟨sa', c', e, hc⟩ := hrr
      obtain ⟨pb, po, s, e2, hcell, hrs⟩ := hc j xs hx
      obtain rfl : sa = some ⟨pb, po, none⟩ := by simp only [Value.slice.injEq] at e; rw [e.1, e2]
      obtain ⟨hw1, hw2⟩ := HWF.out xs (List.mem_of_getElem? hx)
      have hpb := World.block_lt_of_cell? _ _ hcell
      have hc1 : wr.cell? ⟨pb, po + j, none⟩ = some s := (RB1.out.below.cell (p := ⟨pb, po + j, none⟩) hpb).trans hcell
      have RX := Lib.hid hrs; have WX := Lib.hid hw1
      obtain ⟨sb, cs, rfl, hjunk⟩ := hrs
      clear hjunk
      clear hc e e2 hcell hx hw1 HR
      go_upto_region 10 with fail
      obtain ⟨W1, hW1⟩ : ∃ W1, W1 = (wr.alloc (.cells #[.int .i64 j] 3)).alloc (.cells #[.slice sb xs.length cs] 43) := ⟨_, rfl⟩
      have RB2 := Lib.hid (show RB w W1 F L U D K M by rw [hW1]; exact RB1.out.next (balloc (balloc (Below.refl _ _) _) _))
      have BI := Lib.hid (show W1.heap[wr.heap.size]? = some (.cells #[.int .i64 j] 3) by rw [hW1]; exact al nw)
      have BS := Lib.hid (show W1.heap[wr.heap.size + 1]? = some (.cells #[.slice sb xs.length cs] 43) by rw [hW1]; exact nw1)
      have HSZ := Lib.hid (show W1.heap.size = wr.heap.size + 2 by rw [hW1]; simp)
      rw [← hW1]
      clear hW1 hc1
      obtain ⟨g0, g1⟩ := cell_one BS.out
      go_wp2_with fail
      refine (steps_is xs WX.out hw2 _ (RX.out.below RB2.out.below)).mono ?_
      rintro e w3 ⟨v, rfl, ho, hb⟩
      obtain ⟨so, co, rfl⟩ : ∃ so co, v = .slice so xs.length co := by
        rcases ho.shape with ⟨rfl, h0⟩ | ⟨g, cap, cur, rfl, _⟩
        · have := congrArg List.length h0; simp at this; exact ⟨none, 0, by rw [this]; rfl⟩
        · exact ⟨_, cap, by rw [List.length_map]⟩
      have HO := Lib.hid (show OwnS w3 W1.heap.size (.slice so xs.length co) (Zs xs 0) by rw [Zs_zero]; exact ho)
      have B3 := Lib.hid hb
      clear ho hb g0 g1
      dsimp only
      go_wp2_with fail
      obtain ⟨wo, rfl⟩ : ∃ wo : World, wo = wr := ⟨_, rfl⟩
      obtain ⟨go, rfl⟩ : ∃ go : Nat, go = gk := ⟨_, rfl⟩
      go_loopg [57] xs.length (fun gk i w4 => ∃ k : Nat, k + gk = xs.length ∧ i = .int .i64 k ∧ OwnS w4 W1.heap.size (.slice so xs.length co) (Zs xs k) ∧ Below W1.heap.size w3 w4)
      case atStart => exact ⟨0, by omega, rfl, HO.out, Below.refl _ _⟩
      case round =>
        obtain ⟨k, hk, rfl, ho, hb⟩ := hrel
        have HO4 := Lib.hid ho; have B4 := Lib.hid hb; have HK := Lib.hid hk
        by_cases hlt2 : k < xs.length
        · obtain ⟨kk, n, m, hx⟩ : ∃ kk n m, xs[k]? = some (kk, n, m) := ⟨_, _, _, List.getElem?_eq_getElem hlt2⟩
          have hz := Zs_get hx
          obtain ⟨z0, z1, z2, z3, z4, z5⟩ := WX.out _ (List.mem_of_getElem? hx)
          dsimp only at z0 z1 z2 z3 z4 z5
          rcases ho.shape with ⟨_, h0⟩ | ⟨g, cap, cur, e, hg, hh, hcap, hcells⟩
          · have := congrArg List.length h0
            rw [Zs_length, List.length_nil] at this; omega
          · simp only [Value.slice.injEq] at e
            obtain ⟨rfl, _, rfl⟩ := e
            obtain ⟨a0, a1, a2⟩ := hcells k _ hz
            have hcl : wr.cell? ⟨g, k * 3, none⟩ = some (.int .u8 (kk % 6)) ∧ wr.cell? ⟨g, k * 3 + 1, none⟩ = some (.int .i64 (conv0 (kk, n, m)).2.1) ∧ wr.frozen? ⟨g, k * 3 + 1, none⟩ = false := by
              refine ⟨?_, ?_, ?_⟩
              · simp only [World.cell?, hh]; exact a0
              · simp only [World.cell?, hh]; exact a1
              · simp [World.frozen?, hh]
            obtain ⟨q0, q1, q2⟩ := hcl
            have HX := Lib.hid hx
            have HZ := Lib.hid hz
            have HG := Lib.hid hg
            clear ho hb hk hx hz hh hcells a0 a1 a2 hg
            by_cases h4 : kk % 6 = 4
            · have e1 : (conv0 (kk, n, m)).2.1 = n := by simp [conv0, h4]
              rw [e1] at q1
              clear e1
              go_wp2_with fail
              have hk := HK.out
              go_roundg (gk - 1)
              case rel =>
                refine ⟨k + 1, by omega, by simp, ?_, bset B4.out HG.out _⟩
                have e : conv (kk, n, m) = ((conv0 (kk, n, m)).1, n % 256, (conv0 (kk, n, m)).2.2) := by simp [conv, conv0, h4]
                rw [Zs_set HX.out, e]
                exact HO4.out.set HZ.out
              case measure => omega
            · have h4b : (kk % 6 == 4) = false := by simpa using h4
              go_wp2_with fail
              have hk := HK.out
              go_roundg (gk - 1)
              case rel =>
                refine ⟨k + 1, by omega, by simp, ?_, B4.out⟩
                rw [Zs_same HX.out (by simp [conv, conv0, h4])]
                exact HO4.out
              case measure => omega
        · obtain rfl : k = xs.length := by omega
          clear ho hb hk
          have RY := Lib.hid (show Reads3 wr (.slice so xs.length co) (xs.map conv) by have := HO4.out.reads; rwa [Zs_end] at this)
          have BW := Lib.hid (B3.out.trans B4.out)
          have RB4 := Lib.hid (RB2.out.next BW.out)
          have BI4 := Lib.hid (carry BW.out BI.out)
          have BS4 := Lib.hid (carry BW.out BS.out)
          clear HO4 B4 HK HO B3 BI BS
          go_upto_region 17 with fail
          obtain ⟨T, hT⟩ : ∃ T, T = run F L U 0 xs := ⟨_, rfl⟩
          have HT := Lib.hid hT
          have TOK := Lib.hid (show _ from run_ok F f0 f1 xs L U 0 l0 l1 u0 (Int.le_refl _))
          rw [← hT] at TOK
          clear hT
          obtain ⟨tl, tu, td, tk, tm⟩ := T
          dsimp only at TOK
          obtain ⟨w4, rfl⟩ : ∃ w4 : World, w4 = wr := ⟨_, rfl⟩
          go_cut [78] (fun s78 wx => wx.heap[w.heap.size + 2]? = some (.cells (st6 F tl tu td tk tm) 76 (0, 0)) ∧ Two (w.heap.size + 2) (w.heap.size + 2) w4 wx)
          case first =>
            obtain ⟨⟨a0, a1, a2, a3, a4, a5⟩, g0, g1, g2, g3, g4, g5⟩ := cell_six RB4.out.ref
            go_wp2_with fail
            refine (refdo_is F L U D K M xs WX.out hw2 _ RY.out l0 l1 f0 f1 u0 (by omega)).mono ?_
            rw [← HT.out]
            rintro e w5 ⟨rfl, hb⟩
            have B5 := Lib.hid hb
            have R5 := Lib.hid (carry hb RB4.out.ref)
            clear hb a0 a1 a2 a3 a4 a5 g0 g1 g2 g3 g4 g5
            obtain ⟨⟨a0, a1, a2, a3, a4, a5⟩, g0, g1, g2, g3, g4, g5⟩ := cell_six R5.out
            dsimp only
            go_wp2_with fail
            go_meet
            refine ⟨?_, ?_⟩
            · rw [heap_setCell_at (heap_setCell_at (heap_setCell_at (heap_setCell_at (heap_setCell_at (heap_setCell_at R5.out)))))]; rfl
            · exact ((((((((Two.refl _ _ _).next B5.out).set _ _).set _ _).set _ _).set _ _).set _ _).set _ _)
          case rest =>
            obtain ⟨hr6, ht⟩ := hcut
            have lw := lt_of_block RB1.out.ref
            have R6 := Lib.hid hr6
            have A6 := Lib.hid (ht.keep (by omega) (by omega) RB4.out.meter)
            have X6 := Lib.hid (ht.keep (by omega) (by omega) RB4.out.box)
            have BI6 := Lib.hid (ht.keep (by omega) (by omega) BI4.out)
            have BS6 := Lib.hid (ht.keep (by omega) (by omega) BS4.out)
            have W6 := Lib.hid (show Below w.heap.size w wc from RB4.out.below.trans ⟨ht.os, ht.tape, ht.output, ht.size, fun k hk => ht.block k (Nat.lt_of_lt_of_le hk RB4.out.below.size) (by omega) (by omega)⟩)
            clear hr6 ht
            go_upto_region 23 with fail
            obtain ⟨V, hV⟩ : ∃ V, V = ((((wc.alloc (.cells #[.int .i64 0] 3)).alloc (.cells #[.int .u8 0, .int .i64 0] 23)).alloc (.cells #[.bool false] 4)).alloc (.cells #[.int .i64 0] 25)).alloc (.cells #[.int .i64 0] 3) := ⟨_, rfl⟩
            have bV : Below wc.heap.size wc V := by rw [hV]; exact balloc (balloc (balloc (balloc (balloc (Below.refl _ _) _) _) _) _) _
            have BV := Lib.hid bV
            have D0 := Lib.hid (show V.heap[wc.heap.size]? = some (.cells #[.int .i64 0] 3) by rw [hV]; exact al (al (al (al nw))))
            have D1 := Lib.hid (show V.heap[wc.heap.size + 1]? = some (.cells #[.int .u8 0, .int .i64 0] 23) by rw [hV]; exact al (al (al nw1)))
            have D2 := Lib.hid (show V.heap[wc.heap.size + 2]? = some (.cells #[.bool false] 4) by rw [hV]; exact al (al (nwk (by simp))))
            have D3 := Lib.hid (show V.heap[wc.heap.size + 3]? = some (.cells #[.int .i64 0] 25) by rw [hV]; exact al (nwk (by simp)))
            have D4 := Lib.hid (show V.heap[wc.heap.size + 4]? = some (.cells #[.int .i64 0] 3) by rw [hV]; exact nwk (by simp))
            have lc := W6.out.size
            have lm := lt_of_block A6.out
            rw [← hV]
            clear hV bV
            have RDY := Lib.hid (show Rdy V w.heap.size w.heap.size wc.heap.size F L U 0 xs (.slice sb xs.length cs) from
              ⟨WX.out, hw2, RX.out.below (W6.out.trans (BV.out.mono lc)), carry BV.out A6.out, D0.out, RX.out.lo, Nat.le_refl _, lc, by omega, l0, l1, f0, f1, u0, by omega, by omega, by omega⟩)
            go_wp2_with fail
            refine (out54 RDY.out (i := (j : Int)) (by omega) (by omega) (carry BV.out BI6.out) (carry BV.out X6.out) (carry BV.out BS6.out) D1.out D2.out D3.out D4.out lm).mono ?_
            rw [← HT.out]
            rintro e w7 ⟨he, hc⟩
            have CL := Lib.hid hc
            have fr7 := hc.fr
            have R7 := Lib.hid ((fr7.block (w.heap.size + 2) (by have := lt_of_block R6.out; have := BV.out.size; omega) (by omega) (by have := lt_of_block R6.out; omega)).trans (carry BV.out R6.out))
            have X7 := Lib.hid ((fr7.block (w.heap.size + 1) (by have := lt_of_block X6.out; have := BV.out.size; omega) (by omega) (by have := lt_of_block X6.out; omega)).trans (carry BV.out X6.out))
            have I7 := Lib.hid ((fr7.block wo.heap.size (by have := lt_of_block BI6.out; have := BV.out.size; omega) (by omega) (by have := lt_of_block BI6.out; omega)).trans (carry BV.out BI6.out))
            have W7 := Lib.hid (show Below w.heap.size w w7 from (W6.out.trans (BV.out.mono lc)).trans ⟨fr7.os, fr7.tape, fr7.output, fr7.size, fun k hk => fr7.block k (by have := BV.out.size; omega) (by omega) (by omega)⟩)
            clear hc fr7 D0 D1 D2 D3 D4 RDY
            obtain ⟨x0, _⟩ := cell_one X7.out
            obtain ⟨⟨r0, r1, r2, r3, r4, r5⟩, _⟩ := cell_six R7.out
            obtain ⟨i0, _⟩ := cell_one I7.out
            obtain ⟨y0, y1, _, _⟩ := cell_two CL.out.x
            obtain ⟨v0, _⟩ := cell_one CL.out.is
            obtain ⟨d0, _⟩ := cell_one CL.out.done
            obtain ⟨er0, _⟩ := cell_one CL.out.er
            obtain ⟨va0, _⟩ := cell_one CL.out.value
            dsimp only at y0 y1 v0 d0 va0 he
            have r0' : w7.cell? ⟨w.heap.size + 1 + 1, 0, none⟩ = _ := r0
            have r1' : w7.cell? ⟨w.heap.size + 1 + 1, 1, none⟩ = _ := r1
            have r2' : w7.cell? ⟨w.heap.size + 1 + 1, 2, none⟩ = _ := r2
            have r3' : w7.cell? ⟨w.heap.size + 1 + 1, 3, none⟩ = _ := r3
            have r4' : w7.cell? ⟨w.heap.size + 1 + 1, 4, none⟩ = _ := r4
            have r5' : w7.cell? ⟨w.heap.size + 1 + 1, 5, none⟩ = _ := r5
            have v0' : w7.cell? ⟨wc.heap.size + 1 + 1, 0, none⟩ = _ := v0
            have er0' : w7.cell? ⟨wc.heap.size + 1 + 1 + 1, 0, none⟩ = _ := er0
            have va0' : w7.cell? ⟨wc.heap.size + 1 + 1 + 1 + 1, 0, none⟩ = _ := va0
            have A7 := Lib.hid CL.out.meter
            clear r0 r1 r2 r3 r4 r5 v0 er0 va0
            have hjj : (j : Int) % 2 = 0 ∨ (j : Int) % 2 = 1 := by omega
            obtain ⟨t0, t1, t2, t3, t4, t5, htk⟩ := TOK.out
            have ub : U ≤ 220000000 := by omega
            rcases htk with ⟨rfl, rfl⟩ | hk12 | ⟨rfl, rfl⟩
            · rcases he with ⟨_, _, rfl⟩ | ⟨h9, _⟩
              · rcases hjj with hj2 | hj2
                all_goals
                  simp [hj2] at y0 y1 v0' va0'
                  dsimp only
                  go_wp2_with (go_at_call 30; refine (thrown_nil _).mono ?_; rintro e w' ⟨rfl, rfl⟩)
                  simp only [List.append_eq, List.cons_append, List.nil_append]
                  go_quiet ((first | (go_at_call 33; exact Calls.quiet_of_same ((left_ok _ _ _ _ (w7.drewN _) A7.out).mono fun e w' h => ⟨h.1, h.2.symm⟩)) | (go_at_call 34; exact Calls.quiet_of_same ((used_ok _ _ _ _ (w7.drewN _) A7.out).mono fun e w' h => ⟨h.1, h.2.symm⟩))))
                  go_wp2_with fail
                  have hj := HJ.out
                  go_roundg (go - 1)
                  case rel => exact ⟨j + 1, by omega, by simp, tl, tu, td, 0, 0, ⟨A7.out, X7.out, R7.out, bdn (_) W7.out⟩, t0, t1, t2, by omega⟩
                  case measure => omega
              · omega
            · have hk3 : tk = 1 ∨ tk = 2 := by omega
              rcases he with ⟨_, _, rfl⟩ | ⟨h9, _⟩
              · rcases hk3 with rfl | rfl
                · rcases hjj with hj2 | hj2
                  all_goals
                    simp [hj2] at y0 y1 v0' va0'
                    dsimp only
                    go_wp2_with (go_at_call 30; refine (thrown_nil _).mono ?_; rintro e w' ⟨rfl, rfl⟩)
                    go_quiet (fail)
                    go_wp2_with fail
                    simp only [List.append_eq, List.cons_append, List.nil_append]
                    go_quiet ((first | (go_at_call 33; exact quiet_add_left (left_ok _ _ _ _ (w7.drewN _) A7.out)) | (go_at_call 34; exact quiet_add_left (used_ok _ _ _ _ (w7.drewN _) A7.out))))
                    go_wp2_with fail
                    have hj := HJ.out
                    go_roundg (go - 1)
                    case rel => exact ⟨j + 1, by omega, by simp, tl, tu, td, 1, tm, ⟨A7.out, X7.out, R7.out, bdn (_) W7.out⟩, t0, t1, t2, by omega⟩
                    case measure => omega
                · rcases hjj with hj2 | hj2
                  all_goals
                    simp [hj2] at y0 y1 v0' va0'
                    dsimp only
                    go_wp2_with (go_at_call 30; refine (thrown_nil _).mono ?_; rintro e w' ⟨rfl, rfl⟩)
                    go_quiet (fail)
                    go_wp2_with fail
                    simp only [List.append_eq, List.cons_append, List.nil_append]
                    go_quiet ((first | (go_at_call 33; exact quiet_add_left (left_ok _ _ _ _ (w7.drewN _) A7.out)) | (go_at_call 34; exact quiet_add_left (used_ok _ _ _ _ (w7.drewN _) A7.out))))
                    go_wp2_with fail
                    have hj := HJ.out
                    go_roundg (go - 1)
                    case rel => exact ⟨j + 1, by omega, by simp, tl, tu, td, 2, tm, ⟨A7.out, X7.out, R7.out, bdn (_) W7.out⟩, t0, t1, t2, by omega⟩
                    case measure => omega
              · omega
            · rcases he with ⟨_, _, _⟩ | ⟨_, t, x, rfl, htx⟩
              · omega
              · rcases htx with ⟨rfl, rfl⟩ | rfl
                · rcases hjj with hj2 | hj2
                  all_goals
                    have h3 := fun w => ifnil 25 (.int .i64 350) w
                    simp [hj2] at y0 y1 v0' va0'
                    dsimp only
                    go_wp2_with (go_at_call 30; refine (thrown_kind _).mono ?_; rintro e w' ⟨rfl, rfl⟩)
                    simp only [List.append_eq, List.cons_append, List.nil_append]
                    go_quiet ((first | (go_at_call 33; exact Calls.quiet_of_same ((left_ok _ _ _ _ (w7.drewN _) A7.out).mono fun e w' h => ⟨h.1, h.2.symm⟩)) | (go_at_call 34; exact Calls.quiet_of_same ((used_ok _ _ _ _ (w7.drewN _) A7.out).mono fun e w' h => ⟨h.1, h.2.symm⟩))))
                    go_wp2_with fail
                    have hj := HJ.out
                    go_roundg (go - 1)
                    case rel => exact ⟨j + 1, by omega, by simp, tl, tu, td, 9, 0, ⟨A7.out, X7.out, R7.out, bdn (_) W7.out⟩, t0, t1, t2, by omega⟩
                    case measure => omega
                · rcases hjj with hj2 | hj2
                  all_goals
                    have h3 := fun w => ifnil 8 x w
                    simp [hj2] at y0 y1 v0' va0'
                    dsimp only
                    go_wp2_with (go_at_call 30; refine (thrown_boom _ _).mono ?_; rintro e w' ⟨rfl, rfl⟩)
                    simp only [List.append_eq, List.cons_append, List.nil_append]
                    go_quiet ((first | (go_at_call 33; exact Calls.quiet_of_same ((left_ok _ _ _ _ (w7.drewN _) A7.out).mono fun e w' h => ⟨h.1, h.2.symm⟩)) | (go_at_call 34; exact Calls.quiet_of_same ((used_ok _ _ _ _ (w7.drewN _) A7.out).mono fun e w' h => ⟨h.1, h.2.symm⟩))))
                    go_wp2_with fail
                    have hj := HJ.out
                    go_roundg (go - 1)
                    case rel => exact ⟨j + 1, by omega, by simp, tl, tu, td, 9, 0, ⟨A7.out, X7.out, R7.out, bdn (_) W7.out⟩, t0, t1, t2, by omega⟩
                    case measure => omega
    · have hj := HJ.out
      obtain rfl : j = ls.length := by omega
      clear hj
      go_wp2_with fail
      go_ret
      exact ⟨rfl, RB1.out.below⟩
end Go.Proofs.Ytpjccbbemhjgbaa
