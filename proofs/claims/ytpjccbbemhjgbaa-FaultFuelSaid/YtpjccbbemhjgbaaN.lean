import Derived.Test.YtpjccbbemhjgbaaK
import Derived.Deep.LoopGhost
namespace Go.Proofs.Ytpjccbbemhjgbaa
open Go.RowKit
set_option linter.unusedVariables false

theorem ent38 : Ent 38 := fun _ _ => by kernel_rfl

/-- A slot that holds a meter's pointer. -/
abbrev ptrAt (w : World) (p b : Nat) : Prop := w.heap[p]? = some (.cells #[.pointer (some ⟨b, 0, none⟩)] 56)

theorem But.rg {b : Nat} {w w' : World} (h : But b w w') : Rg b (b + 1) w w' := ⟨h.below (Nat.le_refl _), Nat.le_of_eq h.size.symm, fun k h1 _ => h.block k (by omega)⟩

theorem c38_ok (b q f l u n : Int) (B q' : Nat) (hn : 1 ≤ n) (hl : n ≤ l) (hl2 : l ≤ 1048576) (hu : 0 ≤ u) (hu2 : u ≤ 1000000000000) (w : World) (hm : meterAt w B f l u) (hp : ptrAt w (B + 1) B) (hq : w.heap[q']? = some (.cells #[.int .i64 n] 3)) :
    Calls Try.prog 13 #[.func (.func 38) #[] #[.pointer (some ⟨B + 1, 0, none⟩), .pointer (some ⟨q', 0, none⟩)]] w fun e w' => e = .returned (.tuple #[.agg #[.int .u8 0, .int .i64 0], .bool false, .int .i64 0]) ∧ meterAt w' B f (l - n) (u + n) ∧ Rg B (B + 1) w w' :=
  catch_calls ent38 fun w0 hb => by
    have hB := lt_of_block hm
    obtain ⟨c0, f0⟩ := cell_one (carry hb hp)
    obtain ⟨c1, f1⟩ := cell_one (carry hb hq)
    have HM := Lib.hid (carry hb hm)
    clear hm hp hq
    go_enter Try.func38, Try.ntmps38
    go_wp2_with fail
    refine (use_rel _ _ _ _ _ _ HM.out hn hl hl2 hu hu2).mono ?_
    rintro e w1 ⟨rfl, h1, hbut⟩
    have H1 := Lib.hid h1; have H2 := Lib.hid hbut
    clear h1 hbut
    dsimp only
    go_wp2_with fail
    go_end0
    exact ⟨⟨H2.out.rg.high.size, fun k h1 h2 => H2.out.block k (by omega)⟩, _, .ret, fun w2 hb2 => ⟨rfl, (hb2.block _ hB).trans H1.out, Rg.mid hb H2.out.rg hb2 (by omega)⟩⟩

theorem c38_much (f l u n : Int) (B q' : Nat) (hn : 1 ≤ n) (hl : l < n) (w : World) (hm : meterAt w B f l u) (hp : ptrAt w (B + 1) B) (hq : w.heap[q']? = some (.cells #[.int .i64 n] 3)) :
    Calls Try.prog 13 #[.func (.func 38) #[] #[.pointer (some ⟨B + 1, 0, none⟩), .pointer (some ⟨q', 0, none⟩)]] w fun e w' => e = .returned (.tuple #[.agg #[.int .u8 1, .int .i64 n], .bool true, .int .i64 0]) ∧ Below w.heap.size w w' :=
  catch_thrown ent38 1 n (by decide) (by decide) fun w0 hb => by
    obtain ⟨c0, f0⟩ := cell_one (carry hb hp)
    obtain ⟨c1, f1⟩ := cell_one (carry hb hq)
    have HM := Lib.hid (carry hb hm)
    clear hm hp hq
    go_enter Try.func38, Try.ntmps38
    go_wp2_with fail
    refine (use_much _ _ _ _ _ _ HM.out hn hl).mono ?_
    rintro e w1 ⟨rfl, rfl⟩
    exact ⟨rfl, ⟨[], rfl, rfl⟩, Below.refl _ _⟩

theorem fill_rel (b : Nat) (f l u : Int) (w : World) (hm : meterAt w b f l u) :
    Calls Try.prog 32 #[.pointer (some ⟨b, 0, none⟩)] w fun e w' => e = .returned (.int .i64 0) ∧ meterAt w' b f f u ∧ But b w w' :=
  (fill_ok b f l u w hm).mono fun e w' ⟨he, hw⟩ => ⟨he, by
    subst hw
    unfold meterAt
    rw [heap_setCell_at hm]; rfl, by subst hw; exact (But.refl _ _).set _ _⟩

set_option maxRecDepth 100000 in
set_option maxHeartbeats 4000000 in
theorem fuel_row (fu : Int) (hf0 : 0 ≤ fu) (hf : fu ≤ 255) (b off len cap : Nat) (zs : List Int) (hlen : len ≤ 60) (hlc : len ≤ cap) (hz : zs.length = cap) (hcap : cap ≤ 9223372036854775807)
    (w : World) (hc : ∀ i, i < cap → w.cell? ⟨b, off + i, none⟩ = some (.int .u8 (zs.getD i 0))) (hwf : ∀ z ∈ zs, 0 ≤ z ∧ z ≤ 255) (h0 : 0 < cap) :
    Calls Try.prog 9 #[.int .u8 fu, .slice (some ⟨b, off, none⟩) len cap] w fun e w' => e = .returned (.bool true) ∧ Below w.heap.size w w' := by
  have hmf : ∀ (fn : Fn) (first cap : Array Value) (w : World), (Instr.makeFunc fn first cap).run Try.prog w = .ok (.func fn first cap) w := fun _ _ _ _ => rfl
  have hne : ∀ (a b : Nat) (w : World), (binOp BinOp.eql 56 (.pointer (some ⟨a, b, none⟩)) (.pointer none)).run Try.prog w = .ok (.bool false) w := fun _ _ _ => by kernel_rfl
  have HC := Lib.hid hc; have HW := Lib.hid hwf; have HZ := Lib.hid hz
  clear hc hwf hz
  go_enter Try.func9, Try.ntmps9
  go_wp2_with (first | (go_at_call 37; refine (newMeter_ok _ (by omega) (by omega) _).mono ?_; rintro e w' ⟨rfl, rfl⟩))
  go_loopg [8, 9, 37] len (fun gk l u i wr => ∃ (k : Nat) (L U : Int), k + gk = len ∧ l = .int .i64 L ∧ u = .int .i64 U ∧ i = .int .i64 k ∧ 0 ≤ L ∧ L ≤ fu % 201 ∧ 0 ≤ U ∧ U ≤ 40 * k ∧
    meterAt wr w.heap.size (fu % 201) L U ∧ ptrAt wr (w.heap.size + 1) w.heap.size ∧ Below w.heap.size w wr)
  case atStart => exact ⟨0, fu % 201, 0, by omega, rfl, rfl, rfl, by omega, by omega, by omega, by omega, al nw, nw1, balloc (balloc (Below.refl _ _) _) _⟩
  case round =>
    obtain ⟨k, L, U, hk, rfl, rfl, rfl, hL0, hL1, hU0, hU1, hm, hp, hb⟩ := hrel
    have HM := Lib.hid hm; have HP := Lib.hid hp; have HB := Lib.hid hb
    obtain ⟨c0, f0⟩ := cell_one hp
    have hsz := lt_of_block hp
    by_cases hlt : k < len
    · obtain ⟨z, hzk⟩ : ∃ z, z = zs.getD k 0 := ⟨_, rfl⟩
      have hcell : wr.cell? ⟨b, off + k, none⟩ = some (.int .u8 z) := by
        rw [hzk]
        refine Eq.trans (hb.cell ?_) (HC.out k (by omega))
        exact World.block_lt_of_cell? _ _ (HC.out k (by omega))
      have hzb : 0 ≤ z ∧ z ≤ 255 := HW.out z (by
        have hz := HZ.out
        have hkl : k < zs.length := by omega
        have hg : zs.getD k 0 = zs[k] := by simp [hkl]
        rw [hzk, hg]
        exact List.getElem_mem hkl)
      obtain ⟨hz0, hz1⟩ := hzb
      have HK := Lib.hid hk
      clear hzk hm hp hb hk
      by_cases h240 : 240 ≤ z
      · go_wp2_with fail
        refine (fill_rel _ _ _ _ _ HM.out).mono ?_
        rintro e w1 ⟨rfl, h1, hbut⟩
        have H1 := Lib.hid h1
        have H2 := Lib.hid ((hbut.block _ (by omega)).trans HP.out)
        have H3 := Lib.hid (HB.out.trans (hbut.below (Nat.le_refl _)))
        clear h1 hbut HM HP HB c0 f0 hsz hcell
        dsimp only
        go_wp2_with fail
        have hk := HK.out
        go_roundg (gk - 1)
        case rel => exact ⟨k + 1, fu % 201, U, by omega, rfl, rfl, by go_num, by omega, by omega, by omega, by omega, H1.out, H2.out, H3.out⟩
        case measure => omega
      · have hz40 : 0 ≤ z % 40 := by omega
        have hz41 : z % 40 ≤ 39 := by omega
        by_cases hle : 1 + z % 40 ≤ L
        · go_wp2_with fail
          refine (c38_ok 0 0 _ _ _ _ _ _ (by omega) hle (by omega) hU0 (by omega) _ (al HM.out) (al HP.out) nw).mono ?_
          rintro e w1 ⟨rfl, h1, hr⟩
          have hq1 := hr.keep (.inr (by omega)) (nw (w := wr) (o := .cells #[.int .i64 (1 + z % 40)] 3))
          have H1 := Lib.hid h1
          have H2 := Lib.hid (hr.keep (.inr (by omega)) (al HP.out))
          have H3 := Lib.hid ((balloc HB.out _).trans hr.low)
          obtain ⟨c1, f1⟩ := cell_one hq1
          obtain ⟨c2, f2⟩ := cell_one H2.out
          have l0 := lt_of_block hq1
          have l1 := lt_of_block H2.out
          have a0 := fun o off => cell_alloc_lt (o := o) (off := off) l0
          have a1 := fun o off => cell_alloc_lt (o := o) (off := off) l1
          have H4 := Lib.hid hq1
          clear h1 hr hq1 HM HP HB c0 f0 hsz hcell
          dsimp only
          go_wp2_with fail
          go_region
          go_wp2_with (first | (go_at_call 33; refine (left_ok _ _ _ _ ((w1.alloc (.cells #[.int .u8 0, .int .i64 0] 23)).drew) (al H1.out)).mono ?_; rintro e w' ⟨rfl, rfl⟩) | (go_at_call 34; refine (used_ok _ _ _ _ ((w1.alloc (.cells #[.int .u8 0, .int .i64 0] 23)).drew) (al H1.out)).mono ?_; rintro e w' ⟨rfl, rfl⟩))
          have hk := HK.out
          go_roundg (gk - 1)
          case rel => exact ⟨k + 1, L - (1 + z % 40), U + (1 + z % 40), by omega, rfl, rfl, by go_num, by omega, by omega, by omega, by omega, al H1.out, al H2.out, (balloc H3.out _).drew⟩
          case measure => omega
        · have hlt2 : L < 1 + z % 40 := by omega
          go_wp2_with fail
          refine (c38_much _ _ _ _ _ _ (by omega) hlt2 _ (al HM.out) (al HP.out) nw).mono ?_
          rintro e w1 ⟨rfl, hb1⟩
          have hq1 := carry hb1 (nw (w := wr) (o := .cells #[.int .i64 (1 + z % 40)] 3))
          have H1 := Lib.hid (carry hb1 (al HM.out))
          have H2 := Lib.hid (carry hb1 (al HP.out))
          have H3 := Lib.hid (bnext (balloc HB.out _) hb1)
          obtain ⟨c1, f1⟩ := cell_one hq1
          obtain ⟨c2, f2⟩ := cell_one H2.out
          have l0 := lt_of_block hq1
          have l1 := lt_of_block H2.out
          have a0 := fun o off => cell_alloc_lt (o := o) (off := off) l0
          have a1 := fun o off => cell_alloc_lt (o := o) (off := off) l1
          clear hb1 hq1 HM HP HB c0 f0 hsz hcell
          dsimp only
          go_wp2_with (first | (go_at_call 33; refine (left_ok _ _ _ _ _ (al (x := .cells #[.int .u8 1, .int .i64 (1 + z % 40)] 23) H1.out)).mono ?_; rintro e w' ⟨rfl, rfl⟩) | (go_at_call 34; refine (used_ok _ _ _ _ _ (al (x := .cells #[.int .u8 1, .int .i64 (1 + z % 40)] 23) H1.out)).mono ?_; rintro e w' ⟨rfl, rfl⟩))
          have hk := HK.out
          go_roundg (gk - 1)
          case rel => exact ⟨k + 1, L, U, by omega, rfl, rfl, by go_num, by omega, by omega, by omega, by omega, al H1.out, al H2.out, balloc H3.out _⟩
          case measure => omega
    · clear hm hp hb hk
      go_wp2_with (first | (go_at_call 33; refine (left_ok _ _ _ _ _ HM.out).mono ?_; rintro e w' ⟨rfl, rfl⟩) | (go_at_call 31; refine (use_small _ _ _ _ _ _ HM.out (by decide)).mono ?_; rintro e w' ⟨rfl, rfl⟩))
      refine (awake_true _).mono ?_
      rintro e w3 ⟨rfl, hb3⟩
      have HB3 := Lib.hid (bnext HB.out hb3)
      clear hb3
      dsimp only
      go_wp2_with fail
      go_ret
      exact ⟨rfl, HB3.out⟩

set_option maxRecDepth 100000 in
set_option maxHeartbeats 4000000 in
theorem fuel_long (fu : Int) (hf0 : 0 ≤ fu) (hf : fu ≤ 255) (b off len cap : Nat) (zs : List Int) (hlen : 60 < len) (hlc : len ≤ cap) (hz : zs.length = cap) (hcap : cap ≤ 9223372036854775807)
    (w : World) (hc : ∀ i, i < cap → w.cell? ⟨b, off + i, none⟩ = some (.int .u8 (zs.getD i 0))) (hwf : ∀ z ∈ zs, 0 ≤ z ∧ z ≤ 255) (h0 : 0 < cap) :
    Calls Try.prog 9 #[.int .u8 fu, .slice (some ⟨b, off, none⟩) len cap] w fun e w' => e = .returned (.bool true) ∧ Below w.heap.size w w' := by
  have hmf : ∀ (fn : Fn) (first cap : Array Value) (w : World), (Instr.makeFunc fn first cap).run Try.prog w = .ok (.func fn first cap) w := fun _ _ _ _ => rfl
  have hne : ∀ (a b : Nat) (w : World), (binOp BinOp.eql 56 (.pointer (some ⟨a, b, none⟩)) (.pointer none)).run Try.prog w = .ok (.bool false) w := fun _ _ _ => by kernel_rfl
  have HC := Lib.hid hc; have HW := Lib.hid hwf; have HZ := Lib.hid hz
  clear hc hwf hz
  go_enter Try.func9, Try.ntmps9
  go_wp2_with (first | (go_at_call 37; refine (newMeter_ok _ (by omega) (by omega) _).mono ?_; rintro e w' ⟨rfl, rfl⟩))
  go_loopg [8, 9, 37] 60 (fun gk l u i wr => ∃ (k : Nat) (L U : Int), k + gk = 60 ∧ l = .int .i64 L ∧ u = .int .i64 U ∧ i = .int .i64 k ∧ 0 ≤ L ∧ L ≤ fu % 201 ∧ 0 ≤ U ∧ U ≤ 40 * k ∧
    meterAt wr w.heap.size (fu % 201) L U ∧ ptrAt wr (w.heap.size + 1) w.heap.size ∧ Below w.heap.size w wr)
  case atStart => exact ⟨0, fu % 201, 0, by omega, rfl, rfl, rfl, by omega, by omega, by omega, by omega, al nw, nw1, balloc (balloc (Below.refl _ _) _) _⟩
  case round =>
    obtain ⟨k, L, U, hk, rfl, rfl, rfl, hL0, hL1, hU0, hU1, hm, hp, hb⟩ := hrel
    have HM := Lib.hid hm; have HP := Lib.hid hp; have HB := Lib.hid hb
    obtain ⟨c0, f0⟩ := cell_one hp
    have hsz := lt_of_block hp
    by_cases hlt : k < 60
    · obtain ⟨z, hzk⟩ : ∃ z, z = zs.getD k 0 := ⟨_, rfl⟩
      have hcell : wr.cell? ⟨b, off + k, none⟩ = some (.int .u8 z) := by
        rw [hzk]
        refine Eq.trans (hb.cell ?_) (HC.out k (by omega))
        exact World.block_lt_of_cell? _ _ (HC.out k (by omega))
      have hzb : 0 ≤ z ∧ z ≤ 255 := HW.out z (by
        have hz := HZ.out
        have hkl : k < zs.length := by omega
        have hg : zs.getD k 0 = zs[k] := by simp [hkl]
        rw [hzk, hg]
        exact List.getElem_mem hkl)
      obtain ⟨hz0, hz1⟩ := hzb
      have HK := Lib.hid hk
      clear hzk hm hp hb hk
      by_cases h240 : 240 ≤ z
      · go_wp2_with fail
        refine (fill_rel _ _ _ _ _ HM.out).mono ?_
        rintro e w1 ⟨rfl, h1, hbut⟩
        have H1 := Lib.hid h1
        have H2 := Lib.hid ((hbut.block _ (by omega)).trans HP.out)
        have H3 := Lib.hid (HB.out.trans (hbut.below (Nat.le_refl _)))
        clear h1 hbut HM HP HB c0 f0 hsz hcell
        dsimp only
        go_wp2_with fail
        have hk := HK.out
        go_roundg (gk - 1)
        case rel => exact ⟨k + 1, fu % 201, U, by omega, rfl, rfl, by go_num, by omega, by omega, by omega, by omega, H1.out, H2.out, H3.out⟩
        case measure => omega
      · have hz40 : 0 ≤ z % 40 := by omega
        have hz41 : z % 40 ≤ 39 := by omega
        by_cases hle : 1 + z % 40 ≤ L
        · go_wp2_with fail
          refine (c38_ok 0 0 _ _ _ _ _ _ (by omega) hle (by omega) hU0 (by omega) _ (al HM.out) (al HP.out) nw).mono ?_
          rintro e w1 ⟨rfl, h1, hr⟩
          have hq1 := hr.keep (.inr (by omega)) (nw (w := wr) (o := .cells #[.int .i64 (1 + z % 40)] 3))
          have H1 := Lib.hid h1
          have H2 := Lib.hid (hr.keep (.inr (by omega)) (al HP.out))
          have H3 := Lib.hid ((balloc HB.out _).trans hr.low)
          obtain ⟨c1, f1⟩ := cell_one hq1
          obtain ⟨c2, f2⟩ := cell_one H2.out
          have l0 := lt_of_block hq1
          have l1 := lt_of_block H2.out
          have a0 := fun o off => cell_alloc_lt (o := o) (off := off) l0
          have a1 := fun o off => cell_alloc_lt (o := o) (off := off) l1
          have H4 := Lib.hid hq1
          clear h1 hr hq1 HM HP HB c0 f0 hsz hcell
          dsimp only
          go_wp2_with fail
          go_region
          go_wp2_with (first | (go_at_call 33; refine (left_ok _ _ _ _ ((w1.alloc (.cells #[.int .u8 0, .int .i64 0] 23)).drew) (al H1.out)).mono ?_; rintro e w' ⟨rfl, rfl⟩) | (go_at_call 34; refine (used_ok _ _ _ _ ((w1.alloc (.cells #[.int .u8 0, .int .i64 0] 23)).drew) (al H1.out)).mono ?_; rintro e w' ⟨rfl, rfl⟩))
          have hk := HK.out
          go_roundg (gk - 1)
          case rel => exact ⟨k + 1, L - (1 + z % 40), U + (1 + z % 40), by omega, rfl, rfl, by go_num, by omega, by omega, by omega, by omega, al H1.out, al H2.out, (balloc H3.out _).drew⟩
          case measure => omega
        · have hlt2 : L < 1 + z % 40 := by omega
          go_wp2_with fail
          refine (c38_much _ _ _ _ _ _ (by omega) hlt2 _ (al HM.out) (al HP.out) nw).mono ?_
          rintro e w1 ⟨rfl, hb1⟩
          have hq1 := carry hb1 (nw (w := wr) (o := .cells #[.int .i64 (1 + z % 40)] 3))
          have H1 := Lib.hid (carry hb1 (al HM.out))
          have H2 := Lib.hid (carry hb1 (al HP.out))
          have H3 := Lib.hid (bnext (balloc HB.out _) hb1)
          obtain ⟨c1, f1⟩ := cell_one hq1
          obtain ⟨c2, f2⟩ := cell_one H2.out
          have l0 := lt_of_block hq1
          have l1 := lt_of_block H2.out
          have a0 := fun o off => cell_alloc_lt (o := o) (off := off) l0
          have a1 := fun o off => cell_alloc_lt (o := o) (off := off) l1
          clear hb1 hq1 HM HP HB c0 f0 hsz hcell
          dsimp only
          go_wp2_with (first | (go_at_call 33; refine (left_ok _ _ _ _ _ (al (x := .cells #[.int .u8 1, .int .i64 (1 + z % 40)] 23) H1.out)).mono ?_; rintro e w' ⟨rfl, rfl⟩) | (go_at_call 34; refine (used_ok _ _ _ _ _ (al (x := .cells #[.int .u8 1, .int .i64 (1 + z % 40)] 23) H1.out)).mono ?_; rintro e w' ⟨rfl, rfl⟩))
          have hk := HK.out
          go_roundg (gk - 1)
          case rel => exact ⟨k + 1, L, U, by omega, rfl, rfl, by go_num, by omega, by omega, by omega, by omega, al H1.out, al H2.out, balloc H3.out _⟩
          case measure => omega
    · clear hm hp hb hk
      go_wp2_with (first | (go_at_call 33; refine (left_ok _ _ _ _ _ HM.out).mono ?_; rintro e w' ⟨rfl, rfl⟩) | (go_at_call 31; refine (use_small _ _ _ _ _ _ HM.out (by decide)).mono ?_; rintro e w' ⟨rfl, rfl⟩))
      refine (awake_true _).mono ?_
      rintro e w3 ⟨rfl, hb3⟩
      have HB3 := Lib.hid (bnext HB.out hb3)
      clear hb3
      dsimp only
      go_wp2_with fail
      go_ret
      exact ⟨rfl, HB3.out⟩

set_option maxRecDepth 100000 in
set_option maxHeartbeats 4000000 in
theorem fuel_nil (fu : Int) (hf0 : 0 ≤ fu) (hf : fu ≤ 255) (w : World) :
    Calls Try.prog 9 #[.int .u8 fu, .slice none 0 0] w fun e w' => e = .returned (.bool true) ∧ Below w.heap.size w w' := by
  have hmf : ∀ (fn : Fn) (first cap : Array Value) (w : World), (Instr.makeFunc fn first cap).run Try.prog w = .ok (.func fn first cap) w := fun _ _ _ _ => rfl
  have hne : ∀ (a b : Nat) (w : World), (binOp BinOp.eql 56 (.pointer (some ⟨a, b, none⟩)) (.pointer none)).run Try.prog w = .ok (.bool false) w := fun _ _ _ => by kernel_rfl
  go_enter Try.func9, Try.ntmps9
  go_wp2_with (first | (go_at_call 37; refine (newMeter_ok _ (by omega) (by omega) _).mono ?_; rintro e w' ⟨rfl, rfl⟩))
  go_loopg [8, 9, 37] 0 (fun gk l u i wr => ∃ (k : Nat) (L U : Int), k + gk = 0 ∧ l = .int .i64 L ∧ u = .int .i64 U ∧ i = .int .i64 k ∧ 0 ≤ L ∧ L ≤ fu % 201 ∧ 0 ≤ U ∧ U ≤ 40 * k ∧
    meterAt wr w.heap.size (fu % 201) L U ∧ ptrAt wr (w.heap.size + 1) w.heap.size ∧ Below w.heap.size w wr)
  case atStart => exact ⟨0, fu % 201, 0, by omega, rfl, rfl, rfl, by omega, by omega, by omega, by omega, al nw, nw1, balloc (balloc (Below.refl _ _) _) _⟩
  case round =>
    obtain ⟨k, L, U, hk, rfl, rfl, rfl, hL0, hL1, hU0, hU1, hm, hp, hb⟩ := hrel
    have HM := Lib.hid hm; have HP := Lib.hid hp; have HB := Lib.hid hb
    obtain ⟨c0, f0⟩ := cell_one hp
    have hsz := lt_of_block hp
    obtain rfl : k = 0 := by omega
    clear hm hp hb hk
    go_wp2_with (first | (go_at_call 33; refine (left_ok _ _ _ _ _ HM.out).mono ?_; rintro e w' ⟨rfl, rfl⟩) | (go_at_call 31; refine (use_small _ _ _ _ _ _ HM.out (by decide)).mono ?_; rintro e w' ⟨rfl, rfl⟩))
    refine (awake_true _).mono ?_
    rintro e w3 ⟨rfl, hb3⟩
    have HB3 := Lib.hid (bnext HB.out hb3)
    clear hb3
    dsimp only
    go_wp2_with fail
    go_ret
    exact ⟨rfl, HB3.out⟩

set_option maxRecDepth 100000 in
set_option maxHeartbeats 4000000 in
theorem fuel_zero (fu : Int) (hf0 : 0 ≤ fu) (hf : fu ≤ 255) (x : Addr) (w : World) :
    Calls Try.prog 9 #[.int .u8 fu, .slice (some x) 0 0] w fun e w' => e = .returned (.bool true) ∧ Below w.heap.size w w' := by
  have hmf : ∀ (fn : Fn) (first cap : Array Value) (w : World), (Instr.makeFunc fn first cap).run Try.prog w = .ok (.func fn first cap) w := fun _ _ _ _ => rfl
  have hne : ∀ (a b : Nat) (w : World), (binOp BinOp.eql 56 (.pointer (some ⟨a, b, none⟩)) (.pointer none)).run Try.prog w = .ok (.bool false) w := fun _ _ _ => by kernel_rfl
  go_enter Try.func9, Try.ntmps9
  go_wp2_with (first | (go_at_call 37; refine (newMeter_ok _ (by omega) (by omega) _).mono ?_; rintro e w' ⟨rfl, rfl⟩))
  go_loopg [8, 9, 37] 0 (fun gk l u i wr => ∃ (k : Nat) (L U : Int), k + gk = 0 ∧ l = .int .i64 L ∧ u = .int .i64 U ∧ i = .int .i64 k ∧ 0 ≤ L ∧ L ≤ fu % 201 ∧ 0 ≤ U ∧ U ≤ 40 * k ∧
    meterAt wr w.heap.size (fu % 201) L U ∧ ptrAt wr (w.heap.size + 1) w.heap.size ∧ Below w.heap.size w wr)
  case atStart => exact ⟨0, fu % 201, 0, by omega, rfl, rfl, rfl, by omega, by omega, by omega, by omega, al nw, nw1, balloc (balloc (Below.refl _ _) _) _⟩
  case round =>
    obtain ⟨k, L, U, hk, rfl, rfl, rfl, hL0, hL1, hU0, hU1, hm, hp, hb⟩ := hrel
    have HM := Lib.hid hm; have HP := Lib.hid hp; have HB := Lib.hid hb
    obtain ⟨c0, f0⟩ := cell_one hp
    have hsz := lt_of_block hp
    obtain rfl : k = 0 := by omega
    clear hm hp hb hk
    go_wp2_with (first | (go_at_call 33; refine (left_ok _ _ _ _ _ HM.out).mono ?_; rintro e w' ⟨rfl, rfl⟩) | (go_at_call 31; refine (use_small _ _ _ _ _ _ HM.out (by decide)).mono ?_; rintro e w' ⟨rfl, rfl⟩))
    refine (awake_true _).mono ?_
    rintro e w3 ⟨rfl, hb3⟩
    have HB3 := Lib.hid (bnext HB.out hb3)
    clear hb3
    dsimp only
    go_wp2_with fail
    go_ret
    exact ⟨rfl, HB3.out⟩
end Go.Proofs.Ytpjccbbemhjgbaa
