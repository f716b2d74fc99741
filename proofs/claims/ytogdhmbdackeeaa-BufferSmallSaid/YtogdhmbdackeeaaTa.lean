import Derived.Test.YtogdhmbdackeeaaZ
namespace Go.Proofs.Ytogdhmbdackeeaa
open Go.RowKit
set_option linter.unusedVariables false

/-! ## Worlds in which nothing that was there has turned -/
def Since (w : World) : Type := { w' : World // Below w.heap.size w w' }
instance instSince (w : World) : Nonempty (Since w) := ⟨⟨w, Below.refl _ _⟩⟩
theorem wp_region_since {P : Program} {id : Nat} {Q : Exit → Act → World → Prop} {a : Act} {w : World} {l : List Oper} (hm : P.follows .mixedOrders = true) (hB : Region.lexB .any l.toArray = true)
    (h : wpQuiet P l.toArray (fun w' => ∃ d : Since w, w' = d.val) (fun a' => ∀ w', (∃ d : Since w, w' = d.val) → Q .normal a' w') l a) : (Code.region id l.toArray true).wp P Q a w :=
  wp_region_quiet (C := fun w' => ∃ d : Since w, w' = d.val) hm hB ⟨⟨w.drew, (Below.refl _ _).drew⟩, rfl⟩ (by simpa using h)
theorem Calls.since_of {P : Program} {f : FuncId} {args : Array Value} {w : World} {d : Since w} {v : Value}
    (h : Calls P f args d.val fun e w' => e = .returned v ∧ Below d.val.heap.size d.val w') : Calls P f args d.val fun e w'' => e = .returned v ∧ ∃ d' : Since w, w'' = d'.val :=
  h.mono fun _ w' ⟨he, hb⟩ => ⟨he, ⟨w', d.property.trans (hb.mono d.property.size)⟩, rfl⟩
theorem Calls.since_same {P : Program} {f : FuncId} {args : Array Value} {w : World} {d : Since w} {v : Value}
    (h : Calls P f args d.val fun e w' => e = .returned v ∧ d.val = w') : Calls P f args d.val fun e w'' => e = .returned v ∧ ∃ d' : Since w, w'' = d'.val :=
  h.mono fun _ w' ⟨he, hb⟩ => ⟨he, d, hb.symm⟩
theorem since_four {w : World} {b : Nat} {p q r s : Value} {t : TypeId} (h : w.heap[b]? = some (.cells #[p, q, r, s] t (0, 0))) :
    (∀ d : Since w, d.val.cell? ⟨b, 0, none⟩ = some p) ∧ (∀ d : Since w, d.val.cell? ⟨b, 1, none⟩ = some q) ∧ (∀ d : Since w, d.val.cell? ⟨b, 2, none⟩ = some r) ∧ (∀ d : Since w, d.val.cell? ⟨b, 3, none⟩ = some s) :=
  ⟨fun d => (cell_4 (carry d.property h)).1, fun d => (cell_4 (carry d.property h)).2.1, fun d => (cell_4 (carry d.property h)).2.2.1, fun d => (cell_4 (carry d.property h)).2.2.2⟩

/-! ## a row's byte is written -/
theorem Row.setAt {w : World} {R g n c j : Nat} {l : List Int} {y : Int} (h : Row w R (.slice (some ⟨g, 0, none⟩) n c) l) (hj : j < l.length) :
    Row (w.setCell ⟨g, j, none⟩ (.int .u8 y)) R (.slice (some ⟨g, 0, none⟩) n c) (l.set j y) ∧ w.cell? ⟨g, j, none⟩ = some (.int .u8 (rd l j)) ∧ w.frozen? ⟨g, j, none⟩ = false ∧ R ≤ g := by
  rcases h.2 with ⟨e, _⟩ | ⟨g', cap', cur, e, hg, hb, h3, h4, h5, h6⟩
  · cases e
  · simp only [Value.slice.injEq, Option.some.injEq, Addr.mk.injEq, and_true] at e
    obtain ⟨rfl, rfl, rfl⟩ := e
    rw [Nat.mul_one] at h6 h5
    refine ⟨⟨by simp, .inr ⟨g, c, _, by rw [List.length_set], hg, heap_setCell_at hb, by rw [List.length_set]; exact h3, h4, by simpa using h5, ?_⟩⟩, ?_, ?_, hg⟩
    · rw [List.length_set, Nat.mul_one, List.map_set, ← h6, Array.toList_setIfInBounds, List.take_set]
    · have e : (cur.toList.take l.length)[j]? = (l.map (Value.int .u8))[j]? := by rw [h6]
      rw [List.getElem?_take_of_lt hj, Array.getElem?_toList] at e
      simp only [World.cell?, hb]
      rw [e]
      simp [rd, hj]
    · simp [World.frozen?, hb]

/-- The loop that writes over what was told. -/
theorem row_some {w : World} {R n c j : Nat} {vo : Option Addr} {l : List Int} (h : Row w R (.slice vo n c) l) (hj : j < l.length) : ∃ g, vo = some ⟨g, 0, none⟩ := by
  rcases h.2 with ⟨e, h0⟩ | ⟨g', cap', cur, e, _⟩
  · omega
  · simp only [Value.slice.injEq] at e
    exact ⟨g', e.1⟩

theorem since_q {P : Program} {f : FuncId} {args : Array Value} {w : World} {v : Value} (h : ∀ w', Below w.heap.size w w' → Calls P f args w' fun e w'' => e = .returned v ∧ Below w'.heap.size w' w'') :
    ∀ d : Since w, Calls P f args d.val fun e w'' => e = .returned v ∧ ∃ d' : Since w, w'' = d'.val := fun d => Calls.since_of (h d.val d.property)
theorem same_below {P : Program} {f : FuncId} {args : Array Value} {w : World} {v : Value} (h : Calls P f args w fun e w' => e = .returned v ∧ w = w') : Calls P f args w fun e w' => e = .returned v ∧ Below w.heap.size w w' :=
  h.mono fun _ _ ⟨he, hw⟩ => ⟨he, hw ▸ Below.refl _ _⟩

set_option maxRecDepth 100000 in
set_option maxHeartbeats 40000000 in
theorem told_is {w : World} {b K G : Nat} {B i : Int} {A : List Int} {sa : Option Addr} {cap : Nat} (hbuf : Buf w b K (A.drop G) (B + G)) (hr : Reads w (.slice sa A.length cap) A) (hn : A.length ≤ cap) (hG : G ≤ A.length) (hn2 : A.length ≤ 90000) (hA : Bytes A)
    (hB : 0 ≤ B) (hB2 : B ≤ 281474976710656) (hi0 : -9223372036854775808 ≤ i) (hi1 : i ≤ 9223372036854775807) :
    Calls Try.prog 34 #[at0 b, rv K B (.slice sa A.length cap) G, .int .i64 i] w fun e w' => e = .returned (.bool true) ∧ Below w.heap.size w w' := by
  have S0 := Lib.hid hbuf
  have RH := Lib.hid (show Reads w (.slice (tailA sa cap G) (A.length - G) (cap - G)) (A.drop G) from hr.tail hn hG)
  obtain ⟨HH, hHH⟩ : ∃ HH, HH = A.drop G := ⟨_, rfl⟩
  have hHl : HH.length = A.length - G := by rw [hHH, List.length_drop]
  have BH := Lib.hid (show Bytes HH by rw [hHH]; exact fun x hx => hA x (List.mem_of_mem_drop hx))
  rw [← hHH] at RH S0
  rw [← hHl] at RH
  have HL := Lib.hid hHl
  have hHb : HH.length ≤ 90000 := by omega
  have hHK := S0.out.size_le
  have BX := Lib.hid (nw (w := w) (o := .cells #[.int .i64 (K : Int), .int .i64 B, .slice sa A.length cap, .int .i64 (G : Int)] 72))
  clear hbuf hr hA hHH hHl
  go_enter Try.func34, Try.ntmps34
  go_wp2_with (go_at_call 36; refine (held_val (S := (K : Int)) (B := B) hn hG _).mono ?_; rintro e w1 ⟨rfl, hb⟩; unfold hv; rw [← HL.out]; have W1 := Lib.hid (bnext (balloc (Below.refl _ w) _) hb); have S1 := Lib.hid ((S0.out.alloc (.cells #[.int .i64 (K : Int), .int .i64 B, .slice sa A.length cap, .int .i64 (G : Int)] 72)).next hb); have BX1 := Lib.hid (carry hb BX.out); clear hb)
  obtain ⟨ta, hta⟩ : ∃ ta, ta = tailA sa cap G := ⟨_, rfl⟩
  obtain ⟨cap2, hc2⟩ : ∃ cap2, cap2 = cap - G := ⟨_, rfl⟩
  rw [← hta, ← hc2] at RH
  rw [← hta, ← hc2]
  clear hta hc2
  refine (bbytes S1.out).mono ?_
  rintro e w2 ⟨v, rfl, hrow, hb⟩
  obtain ⟨vo, vc, rfl, hvc⟩ := Row.le hrow
  have V2 := Lib.hid (show Row w2 w1.heap.size (.slice vo HH.length vc) HH from hrow)
  have S2 := Lib.hid (S1.out.next hb)
  have BX2 := Lib.hid (carry hb BX1.out)
  have W2 := Lib.hid (bnext W1.out hb)
  have N1 := W1.out.size
  have R2 := Lib.hid (RH.out.next W2.out)
  clear hrow hb S1 BX1 BX
  dsimp only
  by_cases hin : 0 ≤ i ∧ i < HH.length
  · obtain ⟨hin0, hin1⟩ := hin
    obtain ⟨j, rfl⟩ : ∃ j : Nat, i = j := ⟨i.toNat, by omega⟩
    have hj : j < HH.length := by omega
    obtain ⟨pb, po, rfl, hpc⟩ := reads_cell R2.out (Below.refl _ _) hj
    have hat := bat S2.out hin0 hin1
    rw [Int.toNat_natCast] at hat
    obtain ⟨c, hc⟩ : ∃ c, c = rd HH j := ⟨_, rfl⟩
    rw [← hc] at hat hpc
    have HPC := Lib.hid hpc
    clear hc hpc
    go_wp2_with fail
    refine hat.mono ?_
    rintro e w3 ⟨rfl, hb⟩
    have V3 := Lib.hid (V2.out.next hb)
    have S3 := Lib.hid (S2.out.next hb)
    have BX3 := Lib.hid (carry hb BX2.out)
    have R3 := Lib.hid (R2.out.next hb)
    have W3 := Lib.hid (bnext W2.out hb)
    have hcd : ∀ d : Since w3, d.val.cell? ⟨pb, po + j, none⟩ = some (.int .u8 c) := fun d => (d.property.cell (p := ⟨pb, po + j, none⟩) (Nat.lt_of_lt_of_le (World.block_lt_of_cell? _ _ HPC.out) hb.size)).trans ((hb.cell (p := ⟨pb, po + j, none⟩) (World.block_lt_of_cell? _ _ HPC.out)).trans HPC.out)
    clear hat hb
    dsimp only
    have Q19 := Lib.hid (since_q (w := w3) fun w' hb => same_below (equal_true (V3.out.reads.next hb) (R3.out.next hb) BH.out))
    have Q21 := Lib.hid (since_q (w := w3) fun w' hb => same_below (bsize (S3.out.next hb)))
    have Q18 := Lib.hid (since_q (w := w3) fun w' hb => bpart_at (x := B + (G : Int) + (HH.length : Int)) (S3.out.next hb) rfl)
    have Q39 := Lib.hid (since_q (w := w3) fun w' hb => from_val (S := (K : Int)) (v := .slice sa A.length cap) (G := G) hB hB2 (by omega) w')
    obtain ⟨k0, k1, k2, k3⟩ := since_four BX3.out
    have hsum : IntKind.i64.wrap (B + (G : Int) + (HH.length : Int)) = B + (G : Int) + (HH.length : Int) := IntWalk.i64_in _ (by omega)
    by_cases hf : (HH.length : Int) = K
    · have Q14 := Lib.hid (since_q (w := w3) fun w' hb => bfull_yes (S3.out.next hb) hf)
      have Q38 := Lib.hid (since_q (w := w3) fun w' hb => ref_full (S := (K : Int)) (B := B) (sa := sa) hn hG (by rw [← HL.out]; exact hf) w')
      clear hf
      go_upto_region 5 with fail
      refine wp_region_since (by kernel_rfl) (by kernel_rfl) ?_
      repeat (go_big_quiet_step (first | with_reducible exact Q19.out _ | with_reducible exact Q14.out _ | with_reducible exact Q38.out _ | with_reducible exact Q21.out _ | with_reducible exact Q18.out _ | with_reducible exact Q39.out _))
      refine wpQuiet_nil ?_
      rintro w' ⟨d, rfl⟩
      have V4 := Lib.hid (V3.out.next d.property)
      have W4 := Lib.hid (bnext W3.out d.property)
      generalize d.val = w4 at *
      clear k0 k1 k2 k3 hsum hcd
      go_wp2_with fail
      go_loopg [88] HH.length (fun gk i wr => ∃ (k : Nat) (l : List Int), k + gk = HH.length ∧ i = .int .i64 k ∧ Row wr w1.heap.size (.slice vo HH.length vc) l ∧ l.length = HH.length ∧ Below w.heap.size w wr)
      case atStart => exact ⟨0, HH, by omega, rfl, V4.out, rfl, W4.out⟩
      case round =>
        obtain ⟨k, l, hk, rfl, hl, hll, hb⟩ := hrel
        have HK := Lib.hid hk; have HLL := Lib.hid hll; have W5 := Lib.hid hb
        by_cases hlt : k < HH.length
        · obtain ⟨g, rfl⟩ := row_some hl (j := k) (by omega)
          have hs := fun y => (Row.setAt (j := k) (y := y) hl (by omega)).1
          obtain ⟨_, c5, f5, hg⟩ := Row.setAt (j := k) (y := 0) hl (by omega)
          have HS := Lib.hid hs
          have HG := Lib.hid (show w.heap.size ≤ g by omega)
          clear hs hk hll hb hl hg
          go_wp2_with fail
          have hk := HK.out
          go_roundg (gk - 1)
          case rel => exact ⟨k + 1, l.set k _, by omega, by simp, HS.out _, by rw [List.length_set]; exact HLL.out, bset W5.out HG.out _⟩
          case measure => omega
        · obtain rfl : k = HH.length := by omega
          clear hk hll hb hl
          go_wp2_with fail
          go_ret
          exact ⟨rfl, W5.out⟩
    · have Q14 := Lib.hid (since_q (w := w3) fun w' hb => bfull_no (S3.out.next hb) (by omega))
      have Q38 := Lib.hid (since_q (w := w3) fun w' hb => ref_notfull (S := (K : Int)) (B := B) (sa := sa) hn hG (by rw [← HL.out]; exact hf) w')
      clear hf
      go_upto_region 5 with fail
      refine wp_region_since (by kernel_rfl) (by kernel_rfl) ?_
      repeat (go_big_quiet_step (first | with_reducible exact Q19.out _ | with_reducible exact Q14.out _ | with_reducible exact Q38.out _ | with_reducible exact Q21.out _ | with_reducible exact Q18.out _ | with_reducible exact Q39.out _))
      refine wpQuiet_nil ?_
      rintro w' ⟨d, rfl⟩
      have V4 := Lib.hid (V3.out.next d.property)
      have W4 := Lib.hid (bnext W3.out d.property)
      generalize d.val = w4 at *
      clear k0 k1 k2 k3 hsum hcd
      go_wp2_with fail
      go_loopg [88] HH.length (fun gk i wr => ∃ (k : Nat) (l : List Int), k + gk = HH.length ∧ i = .int .i64 k ∧ Row wr w1.heap.size (.slice vo HH.length vc) l ∧ l.length = HH.length ∧ Below w.heap.size w wr)
      case atStart => exact ⟨0, HH, by omega, rfl, V4.out, rfl, W4.out⟩
      case round =>
        obtain ⟨k, l, hk, rfl, hl, hll, hb⟩ := hrel
        have HK := Lib.hid hk; have HLL := Lib.hid hll; have W5 := Lib.hid hb
        by_cases hlt : k < HH.length
        · obtain ⟨g, rfl⟩ := row_some hl (j := k) (by omega)
          have hs := fun y => (Row.setAt (j := k) (y := y) hl (by omega)).1
          obtain ⟨_, c5, f5, hg⟩ := Row.setAt (j := k) (y := 0) hl (by omega)
          have HS := Lib.hid hs
          have HG := Lib.hid (show w.heap.size ≤ g by omega)
          clear hs hk hll hb hl hg
          go_wp2_with fail
          have hk := HK.out
          go_roundg (gk - 1)
          case rel => exact ⟨k + 1, l.set k _, by omega, by simp, HS.out _, by rw [List.length_set]; exact HLL.out, bset W5.out HG.out _⟩
          case measure => omega
        · obtain rfl : k = HH.length := by omega
          clear hk hll hb hl
          go_wp2_with fail
          go_ret
          exact ⟨rfl, W5.out⟩
  · have hat := bat_no (i := i) S2.out (by omega)
    go_wp2_with fail
    refine hat.mono ?_
    rintro e w' ⟨rfl, rfl⟩
    have V3 := V2; have S3 := S2; have BX3 := BX2; have R3 := R2; have W3 := W2
    obtain ⟨w3, rfl⟩ : ∃ w3, w3 = w2 := ⟨_, rfl⟩
    clear hat
    dsimp only
    by_cases hi : i < 0
    · have hi2 : ¬ 0 ≤ i := by omega
      have hi3 : decide (0 ≤ i) = false := by simpa using hi2
      clear hin
      have Q19 := Lib.hid (since_q (w := w3) fun w' hb => same_below (equal_true (V3.out.reads.next hb) (R3.out.next hb) BH.out))
      have Q21 := Lib.hid (since_q (w := w3) fun w' hb => same_below (bsize (S3.out.next hb)))
      have Q18 := Lib.hid (since_q (w := w3) fun w' hb => bpart_at (x := B + (G : Int) + (HH.length : Int)) (S3.out.next hb) rfl)
      have Q39 := Lib.hid (since_q (w := w3) fun w' hb => from_val (S := (K : Int)) (v := .slice sa A.length cap) (G := G) hB hB2 (by omega) w')
      obtain ⟨k0, k1, k2, k3⟩ := since_four BX3.out
      have hsum : IntKind.i64.wrap (B + (G : Int) + (HH.length : Int)) = B + (G : Int) + (HH.length : Int) := IntWalk.i64_in _ (by omega)
      by_cases hf : (HH.length : Int) = K
      · have Q14 := Lib.hid (since_q (w := w3) fun w' hb => bfull_yes (S3.out.next hb) hf)
        have Q38 := Lib.hid (since_q (w := w3) fun w' hb => ref_full (S := (K : Int)) (B := B) (sa := sa) hn hG (by rw [← HL.out]; exact hf) w')
        clear hf
        go_upto_region 5 with fail
        refine wp_region_since (by kernel_rfl) (by kernel_rfl) ?_
        repeat (go_big_quiet_step (first | with_reducible exact Q19.out _ | with_reducible exact Q14.out _ | with_reducible exact Q38.out _ | with_reducible exact Q21.out _ | with_reducible exact Q18.out _ | with_reducible exact Q39.out _))
        refine wpQuiet_nil ?_
        rintro w' ⟨d, rfl⟩
        have V4 := Lib.hid (V3.out.next d.property)
        have W4 := Lib.hid (bnext W3.out d.property)
        generalize d.val = w4 at *
        clear k0 k1 k2 k3 hsum 
        go_wp2_with fail
        go_loopg [88] HH.length (fun gk i wr => ∃ (k : Nat) (l : List Int), k + gk = HH.length ∧ i = .int .i64 k ∧ Row wr w1.heap.size (.slice vo HH.length vc) l ∧ l.length = HH.length ∧ Below w.heap.size w wr)
        case atStart => exact ⟨0, HH, by omega, rfl, V4.out, rfl, W4.out⟩
        case round =>
          obtain ⟨k, l, hk, rfl, hl, hll, hb⟩ := hrel
          have HK := Lib.hid hk; have HLL := Lib.hid hll; have W5 := Lib.hid hb
          by_cases hlt : k < HH.length
          · obtain ⟨g, rfl⟩ := row_some hl (j := k) (by omega)
            have hs := fun y => (Row.setAt (j := k) (y := y) hl (by omega)).1
            obtain ⟨_, c5, f5, hg⟩ := Row.setAt (j := k) (y := 0) hl (by omega)
            have HS := Lib.hid hs
            have HG := Lib.hid (show w.heap.size ≤ g by omega)
            clear hs hk hll hb hl hg
            go_wp2_with fail
            have hk := HK.out
            go_roundg (gk - 1)
            case rel => exact ⟨k + 1, l.set k _, by omega, by simp, HS.out _, by rw [List.length_set]; exact HLL.out, bset W5.out HG.out _⟩
            case measure => omega
          · obtain rfl : k = HH.length := by omega
            clear hk hll hb hl
            go_wp2_with fail
            go_ret
            exact ⟨rfl, W5.out⟩
      · have Q14 := Lib.hid (since_q (w := w3) fun w' hb => bfull_no (S3.out.next hb) (by omega))
        have Q38 := Lib.hid (since_q (w := w3) fun w' hb => ref_notfull (S := (K : Int)) (B := B) (sa := sa) hn hG (by rw [← HL.out]; exact hf) w')
        clear hf
        go_upto_region 5 with fail
        refine wp_region_since (by kernel_rfl) (by kernel_rfl) ?_
        repeat (go_big_quiet_step (first | with_reducible exact Q19.out _ | with_reducible exact Q14.out _ | with_reducible exact Q38.out _ | with_reducible exact Q21.out _ | with_reducible exact Q18.out _ | with_reducible exact Q39.out _))
        refine wpQuiet_nil ?_
        rintro w' ⟨d, rfl⟩
        have V4 := Lib.hid (V3.out.next d.property)
        have W4 := Lib.hid (bnext W3.out d.property)
        generalize d.val = w4 at *
        clear k0 k1 k2 k3 hsum 
        go_wp2_with fail
        go_loopg [88] HH.length (fun gk i wr => ∃ (k : Nat) (l : List Int), k + gk = HH.length ∧ i = .int .i64 k ∧ Row wr w1.heap.size (.slice vo HH.length vc) l ∧ l.length = HH.length ∧ Below w.heap.size w wr)
        case atStart => exact ⟨0, HH, by omega, rfl, V4.out, rfl, W4.out⟩
        case round =>
          obtain ⟨k, l, hk, rfl, hl, hll, hb⟩ := hrel
          have HK := Lib.hid hk; have HLL := Lib.hid hll; have W5 := Lib.hid hb
          by_cases hlt : k < HH.length
          · obtain ⟨g, rfl⟩ := row_some hl (j := k) (by omega)
            have hs := fun y => (Row.setAt (j := k) (y := y) hl (by omega)).1
            obtain ⟨_, c5, f5, hg⟩ := Row.setAt (j := k) (y := 0) hl (by omega)
            have HS := Lib.hid hs
            have HG := Lib.hid (show w.heap.size ≤ g by omega)
            clear hs hk hll hb hl hg
            go_wp2_with fail
            have hk := HK.out
            go_roundg (gk - 1)
            case rel => exact ⟨k + 1, l.set k _, by omega, by simp, HS.out _, by rw [List.length_set]; exact HLL.out, bset W5.out HG.out _⟩
            case measure => omega
          · obtain rfl : k = HH.length := by omega
            clear hk hll hb hl
            go_wp2_with fail
            go_ret
            exact ⟨rfl, W5.out⟩
    · have hi2 : 0 ≤ i := by omega
      have hi3 : ¬ i < (HH.length : Int) := by omega
      have hi4 : decide (i < (HH.length : Int)) = false := by simpa using (by omega : (HH.length : Int) ≤ i)
      clear hin
      have Q19 := Lib.hid (since_q (w := w3) fun w' hb => same_below (equal_true (V3.out.reads.next hb) (R3.out.next hb) BH.out))
      have Q21 := Lib.hid (since_q (w := w3) fun w' hb => same_below (bsize (S3.out.next hb)))
      have Q18 := Lib.hid (since_q (w := w3) fun w' hb => bpart_at (x := B + (G : Int) + (HH.length : Int)) (S3.out.next hb) rfl)
      have Q39 := Lib.hid (since_q (w := w3) fun w' hb => from_val (S := (K : Int)) (v := .slice sa A.length cap) (G := G) hB hB2 (by omega) w')
      obtain ⟨k0, k1, k2, k3⟩ := since_four BX3.out
      have hsum : IntKind.i64.wrap (B + (G : Int) + (HH.length : Int)) = B + (G : Int) + (HH.length : Int) := IntWalk.i64_in _ (by omega)
      by_cases hf : (HH.length : Int) = K
      · have Q14 := Lib.hid (since_q (w := w3) fun w' hb => bfull_yes (S3.out.next hb) hf)
        have Q38 := Lib.hid (since_q (w := w3) fun w' hb => ref_full (S := (K : Int)) (B := B) (sa := sa) hn hG (by rw [← HL.out]; exact hf) w')
        clear hf
        go_upto_region 5 with fail
        refine wp_region_since (by kernel_rfl) (by kernel_rfl) ?_
        repeat (go_big_quiet_step (first | with_reducible exact Q19.out _ | with_reducible exact Q14.out _ | with_reducible exact Q38.out _ | with_reducible exact Q21.out _ | with_reducible exact Q18.out _ | with_reducible exact Q39.out _))
        refine wpQuiet_nil ?_
        rintro w' ⟨d, rfl⟩
        have V4 := Lib.hid (V3.out.next d.property)
        have W4 := Lib.hid (bnext W3.out d.property)
        generalize d.val = w4 at *
        clear k0 k1 k2 k3 hsum 
        go_wp2_with fail
        go_loopg [88] HH.length (fun gk i wr => ∃ (k : Nat) (l : List Int), k + gk = HH.length ∧ i = .int .i64 k ∧ Row wr w1.heap.size (.slice vo HH.length vc) l ∧ l.length = HH.length ∧ Below w.heap.size w wr)
        case atStart => exact ⟨0, HH, by omega, rfl, V4.out, rfl, W4.out⟩
        case round =>
          obtain ⟨k, l, hk, rfl, hl, hll, hb⟩ := hrel
          have HK := Lib.hid hk; have HLL := Lib.hid hll; have W5 := Lib.hid hb
          by_cases hlt : k < HH.length
          · obtain ⟨g, rfl⟩ := row_some hl (j := k) (by omega)
            have hs := fun y => (Row.setAt (j := k) (y := y) hl (by omega)).1
            obtain ⟨_, c5, f5, hg⟩ := Row.setAt (j := k) (y := 0) hl (by omega)
            have HS := Lib.hid hs
            have HG := Lib.hid (show w.heap.size ≤ g by omega)
            clear hs hk hll hb hl hg
            go_wp2_with fail
            have hk := HK.out
            go_roundg (gk - 1)
            case rel => exact ⟨k + 1, l.set k _, by omega, by simp, HS.out _, by rw [List.length_set]; exact HLL.out, bset W5.out HG.out _⟩
            case measure => omega
          · obtain rfl : k = HH.length := by omega
            clear hk hll hb hl
            go_wp2_with fail
            go_ret
            exact ⟨rfl, W5.out⟩
      · have Q14 := Lib.hid (since_q (w := w3) fun w' hb => bfull_no (S3.out.next hb) (by omega))
        have Q38 := Lib.hid (since_q (w := w3) fun w' hb => ref_notfull (S := (K : Int)) (B := B) (sa := sa) hn hG (by rw [← HL.out]; exact hf) w')
        clear hf
        go_upto_region 5 with fail
        refine wp_region_since (by kernel_rfl) (by kernel_rfl) ?_
        repeat (go_big_quiet_step (first | with_reducible exact Q19.out _ | with_reducible exact Q14.out _ | with_reducible exact Q38.out _ | with_reducible exact Q21.out _ | with_reducible exact Q18.out _ | with_reducible exact Q39.out _))
        refine wpQuiet_nil ?_
        rintro w' ⟨d, rfl⟩
        have V4 := Lib.hid (V3.out.next d.property)
        have W4 := Lib.hid (bnext W3.out d.property)
        generalize d.val = w4 at *
        clear k0 k1 k2 k3 hsum 
        go_wp2_with fail
        go_loopg [88] HH.length (fun gk i wr => ∃ (k : Nat) (l : List Int), k + gk = HH.length ∧ i = .int .i64 k ∧ Row wr w1.heap.size (.slice vo HH.length vc) l ∧ l.length = HH.length ∧ Below w.heap.size w wr)
        case atStart => exact ⟨0, HH, by omega, rfl, V4.out, rfl, W4.out⟩
        case round =>
          obtain ⟨k, l, hk, rfl, hl, hll, hb⟩ := hrel
          have HK := Lib.hid hk; have HLL := Lib.hid hll; have W5 := Lib.hid hb
          by_cases hlt : k < HH.length
          · obtain ⟨g, rfl⟩ := row_some hl (j := k) (by omega)
            have hs := fun y => (Row.setAt (j := k) (y := y) hl (by omega)).1
            obtain ⟨_, c5, f5, hg⟩ := Row.setAt (j := k) (y := 0) hl (by omega)
            have HS := Lib.hid hs
            have HG := Lib.hid (show w.heap.size ≤ g by omega)
            clear hs hk hll hb hl hg
            go_wp2_with fail
            have hk := HK.out
            go_roundg (gk - 1)
            case rel => exact ⟨k + 1, l.set k _, by omega, by simp, HS.out _, by rw [List.length_set]; exact HLL.out, bset W5.out HG.out _⟩
            case measure => omega
          · obtain rfl : k = HH.length := by omega
            clear hk hll hb hl
            go_wp2_with fail
            go_ret
            exact ⟨rfl, W5.out⟩
end Go.Proofs.Ytogdhmbdackeeaa
