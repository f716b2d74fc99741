import Derived.Test.YtpjccbbemhjgbaaR
import Derived.Test.YtpjccbbemhjgbaaX
namespace Go.Proofs.Ytpjccbbemhjgbaa
open Go.RowKit
set_option linter.unusedVariables false

/-- All blocks that were there, but p and q, are as they were. -/
structure Two (p q : Nat) (w w' : World) : Prop where
  os : w'.os = w.os
  tape : w'.tape = w.tape
  output : w'.output = w.output
  size : w.heap.size ≤ w'.heap.size
  block : ∀ k, k < w.heap.size → k ≠ p → k ≠ q → w'.heap[k]? = w.heap[k]?
theorem Two.refl (p q : Nat) (w : World) : Two p q w w := ⟨rfl, rfl, rfl, Nat.le_refl _, fun _ _ _ _ => rfl⟩
theorem Two.trans {p q : Nat} {a b c : World} (h : Two p q a b) (k : Two p q b c) : Two p q a c :=
  ⟨k.os.trans h.os, k.tape.trans h.tape, k.output.trans h.output, Nat.le_trans h.size k.size, fun i h1 h2 h3 => (k.block i (Nat.lt_of_lt_of_le h1 h.size) h2 h3).trans (h.block i h1 h2 h3)⟩
theorem Two.next {p q : Nat} {a b c : World} (h : Two p q a b) (k : Below b.heap.size b c) : Two p q a c :=
  h.trans ⟨k.os, k.tape, k.output, k.size, fun i h1 _ _ => k.block i h1⟩
theorem Two.but {p q : Nat} {a b c : World} (h : Two p q a b) (k : But p b c) : Two p q a c :=
  h.trans ⟨k.os, k.tape, k.output, Nat.le_of_eq k.size.symm, fun i _ h2 _ => k.block i h2⟩
theorem Two.set {p q : Nat} {a b : World} (h : Two p q a b) (off : Nat) (v : Value) : Two p q a (b.setCell ⟨q, off, none⟩ v) :=
  h.trans ⟨rfl, rfl, rfl, by simp, fun i _ _ h3 => heap_setCell_ne h3⟩
theorem Two.alloc {p q : Nat} {a b : World} (h : Two p q a b) (o : Obj) : Two p q a (b.alloc o) := h.next (balloc (Below.refl _ _) o)
theorem Two.drew {p q : Nat} {a b : World} (h : Two p q a b) : Two p q a b.drew := h.next ((Below.refl _ _).drew)
theorem Two.keep {p q k : Nat} {w w' : World} {o : Obj} (h : Two p q w w') (h1 : k ≠ p) (h2 : k ≠ q) (ho : w.heap[k]? = some o) : w'.heap[k]? = some o := (h.block k (lt_of_block ho) h1 h2).trans ho

theorem Reads3.under {w w' : World} {sv : Value} {xs : List Stp} {p q B : Nat} (h : Reads3 w sv xs) (ht : Two p q w w') (hB : xs ≠ [] → ∀ sa n c, sv = .slice (some sa) n c → sa.block < B) (hp : B ≤ p) (hq : B ≤ q) : Reads3 w' sv xs := by
  obtain ⟨sa, c, rfl, hc⟩ := h
  refine ⟨sa, c, rfl, fun j x hj => ?_⟩
  obtain ⟨pb, po, rfl, h0, h1, h2⟩ := hc j x hj
  have hlt := World.block_lt_of_cell? _ _ h0
  have hb := hB (by rintro rfl; simp at hj) _ _ _ rfl
  have hk := ht.block pb hlt (by simp at hb; omega) (by simp at hb; omega)
  exact ⟨pb, po, rfl, (World.cell?_of_block hk).trans h0, (World.cell?_of_block hk).trans h1, (World.cell?_of_block hk).trans h2⟩

theorem rep_is (n : Int) (h0 : 0 ≤ n) (h1 : n ≤ 3000) (w : World) :
    Calls Try.prog 61 #[.string ⟨#[120]⟩, .int .i64 n] w fun e w' => ∃ s : ByteArray, e = .returned (.string s) ∧ (s.size : Int) = n ∧ Below w.heap.size w w' := by
  have := Try.strings_Repeat ⟨#[120]⟩ n.toNat w (by omega) (by show 1 * n.toNat ≤ _; omega)
  rw [show ((n.toNat : Nat) : Int) = n by omega] at this
  refine this.mono ?_
  rintro e w' ⟨he, hb⟩
  refine ⟨_, he, ?_, hb⟩
  show (((Lib.repeatL [120] n.toNat).toArray.size : Nat) : Int) = n
  rw [List.size_toArray, Lib.repeatL_length]
  simp; omega

/-- How a run of steps ends. -/
def DoE (K M : Int) (e : Ending) : Prop :=
  (K = 0 ∧ M = 0 ∧ e = .returned (.tuple #[])) ∨
  (1 ≤ K ∧ K ≤ 2 ∧ ∃ older, e = .panicked ({ v := .iface 23 (.agg #[.int .u8 K, .int .i64 M]), recovered := false } :: older) ∧ older.dropWhile (!·.goexit) = []) ∨
  (K = 9 ∧ M = 0 ∧ ∃ t x older, e = .panicked ({ v := .iface t x, recovered := false } :: older) ∧ (t = 25 ∧ x = .int .i64 350 ∨ t = 8) ∧ older.dropWhile (!·.goexit) = [])
theorem doe_fault {K M : Int} (h1 : 1 ≤ K) (h2 : K ≤ 2) : DoE K M (.panicked [{ v := .iface 23 (.agg #[.int .u8 K, .int .i64 M]), recovered := false }]) := .inr (.inl ⟨h1, h2, [], rfl, rfl⟩)
theorem doe_kind : DoE 9 0 (.panicked [{ v := .iface 25 (.int .i64 350), recovered := false }]) := .inr (.inr ⟨rfl, rfl, 25, _, [], rfl, .inl ⟨rfl, rfl⟩, rfl⟩)
theorem doe_boom {x : Value} : DoE 9 0 (.panicked [{ v := .iface 8 x, recovered := false }]) := .inr (.inr ⟨rfl, rfl, 8, _, [], rfl, .inr rfl, rfl⟩)
theorem fill_rel (b : Nat) (f l u : Int) (w : World) (hm : meterAt w b f l u) :
    Calls Try.prog 32 #[.pointer (some ⟨b, 0, none⟩)] w fun e w' => e = .returned (.int .i64 0) ∧ meterAt w' b f f u ∧ But b w w' :=
  (fill_ok b f l u w hm).mono fun e w' ⟨he, hw⟩ => ⟨he, by subst hw; unfold meterAt; rw [heap_setCell_at hm]; rfl, by subst hw; exact (But.refl _ _).set _ _⟩
theorem box_set {w : World} {q : Nat} {a b : Value} (h : w.heap[q]? = some (.cells #[a] 3 (0, 0))) : (w.setCell ⟨q, 0, none⟩ b).heap[q]? = some (.cells #[b] 3 (0, 0)) := by rw [heap_setCell_at h]; rfl
theorem boom_is (n : Int) (w : World) :
    Calls Try.prog 16 #[.int .i64 n] w fun e w' => ∃ x, e = .panicked [{ v := .iface 8 x, recovered := false }] ∧ Below w.heap.size w w' ∧ ∀ k : Nat, w'.heap[k]? = w.heap[k]? :=
  (boom_any n w).mono fun e w' ⟨x, he, hw⟩ => ⟨x, he, by rcases hw with rfl | rfl; exact Below.refl _ _; exact (Below.refl _ _).drew, by rcases hw with rfl | rfl <;> exact fun _ => rfl⟩
def DoPost (T : Rs) (f : Int) (p q : Nat) (w : World) (e : Ending) (w' : World) : Prop :=
  DoE T.2.2.2.1 T.2.2.2.2 e ∧ meterAt w' p f T.1 T.2.1 ∧ w'.heap[q]? = some (.cells #[.int .i64 T.2.2.1] 3 (0, 0)) ∧ Two p q w w'

set_option maxRecDepth 100000 in
set_option maxHeartbeats 4000000 in
theorem do_is {w : World} (B p q : Nat) (f l u d : Int) (xs : List Stp) (hx : WfS xs) (hl : xs.length ≤ 12) (sv : Value) (hr : Reads3 w sv xs) (hm : meterAt w p f l u) (hd : w.heap[q]? = some (.cells #[.int .i64 d] 3 (0, 0)))
    (hB : xs ≠ [] → ∀ sa n c, sv = .slice (some sa) n c → sa.block < B) (hp : B ≤ p) (hq : B ≤ q) (hpq : p ≠ q)
    (l0 : 0 ≤ l) (l1 : l ≤ 1048576) (f0 : 0 ≤ f) (f1 : f ≤ 1048576) (u0 : 0 ≤ u) (u1 : u ≤ 1000000000) (d0 : 0 ≤ d) (d1 : d ≤ 1000) :
    Calls Try.prog 56 #[.pointer (some ⟨p, 0, none⟩), sv, .pointer (some ⟨q, 0, none⟩)] w (DoPost (run f l u d xs) f p q w) := by
  have HR := Lib.hid hr
  have HM := Lib.hid hm
  have HD := Lib.hid hd
  have HB := Lib.hid hB
  obtain ⟨sa, c, rfl, hc⟩ := hr
  clear hc hm hd hB
  have HX := Lib.hid hx
  clear hx
  obtain ⟨T, hT⟩ : ∃ T, T = run f l u d xs := ⟨_, rfl⟩
  have HT := Lib.hid hT
  rw [← hT]
  clear hT
  go_enter Try.func56, Try.ntmps56
  go_wp2_with fail
  go_loopg [11] xs.length (fun gk i wr => ∃ k : Nat, k + gk = xs.length ∧ i = .int .i64 k ∧ ∃ L U D, meterAt wr p f L U ∧ wr.heap[q]? = some (.cells #[.int .i64 D] 3 (0, 0)) ∧ Two p q w wr ∧
    0 ≤ L ∧ L ≤ 1048576 ∧ 0 ≤ U ∧ U ≤ 1000000000 + 1048576 * k ∧ 0 ≤ D ∧ D ≤ 1000 + k ∧ run f L U D (xs.drop k) = T)
  case atStart => exact ⟨0, by omega, rfl, l, u, d, HM.out, HD.out, Two.refl _ _ _, l0, l1, u0, by omega, d0, by omega, HT.out.symm⟩
  case round =>
    obtain ⟨k, hk, rfl, L, U, D, hA, hE, hb, q0, q1, q2, q3, q4, q5, hrun⟩ := hrel
    have HA := Lib.hid hA; have HE := Lib.hid hE; have W1 := Lib.hid hb; have HK := Lib.hid hk; have HN := Lib.hid hrun
    by_cases hlt : k < xs.length
    · obtain ⟨kk, n, m, hx⟩ : ∃ kk n m, xs[k]? = some (kk, n, m) := ⟨_, _, _, List.getElem?_eq_getElem hlt⟩
      obtain ⟨pb, po, c', e, hpb, e0, e1, e2⟩ := (HR.out.under W1.out HB.out hp hq).at (Below.refl _ _) (j := k) (x := (kk, n, m)) hx
      obtain rfl : sa = some ⟨pb, po, none⟩ := by simp only [Value.slice.injEq] at e; exact e.1
      have hw := HX.out _ (List.mem_of_getElem? hx)
      have hdrop : xs.drop k = (kk, n, m) :: xs.drop (k + 1) := by
        rw [List.drop_eq_getElem_cons hlt]; simp [List.getElem?_eq_getElem hlt] at hx; rw [hx]
      rw [hdrop] at hrun
      obtain ⟨z0, z1, z2, z3, z4, z5⟩ := hw
      dsimp only at z0 z1 z2 z3 z4 z5 e0 e1 e2
      have lp := lt_of_block hA; have lq := lt_of_block hE
      have A1 := Lib.hid (show meterAt (wr.alloc (.cells #[.int .u8 kk, .int .i64 n, .int .i64 m] 46)) p f L U from al hA)
      have E1 := Lib.hid (al (x := .cells #[.int .u8 kk, .int .i64 n, .int .i64 m] 46) hE)
      have W2 := Lib.hid (hb.alloc (.cells #[.int .u8 kk, .int .i64 n, .int .i64 m] 46))
      have hk6 : kk % 6 = 0 ∨ kk % 6 = 1 ∨ kk % 6 = 2 ∨ kk % 6 = 3 ∨ kk % 6 = 4 ∨ kk % 6 = 5 := by omega
      rcases hk6 with h6 | h6 | h6 | h6 | h6 | h6
      all_goals
        simp only [h6, run] at hrun
        obtain ⟨g0, g1⟩ := cell_one hE
        clear e HR hdrop hx hA hE hb
      · simp at hrun
        have HR1 := Lib.hid hrun
        clear hk hrun
        go_wp2_with fail
        have hk := HK.out
        go_roundg (gk - 1)
        case rel => exact ⟨k + 1, by omega, by simp, _, _, _, al ((heap_setCell_ne hpq).trans HA.out), al (box_set HE.out), ((W1.out.set 0 _).alloc _), by omega, by omega, by omega, by omega, by omega, by omega, HR1.out⟩
        case measure => omega
      · simp at hrun
        by_cases hn : L < n
        · rw [if_pos hn] at hrun
          have HR1 := Lib.hid hrun
          clear hk hrun
          go_wp2_with (go_at_call 31; refine (use_much _ _ _ _ _ _ A1.out (by omega) hn).mono ?_; rintro e w' ⟨rfl, rfl⟩)
          have hT := HR1.out
          subst hT
          exact ⟨rfl, doe_fault (K := 1) (M := n) (by decide) (by decide), A1.out, E1.out, W2.out⟩
        · rw [if_neg hn] at hrun
          by_cases hn0 : 0 < n
          · rw [if_pos hn0] at hrun
            have HR1 := Lib.hid hrun
            clear hk hrun
            go_wp2_with (go_at_call 31; refine (use_rel _ _ _ _ _ _ A1.out (by omega) (by omega) q1 q2 (by omega)).mono ?_; rintro e w3 ⟨rfl, hm3, hb3⟩; have A3 := Lib.hid hm3; have E3 := Lib.hid ((hb3.block q (Ne.symm hpq)).trans E1.out); (obtain ⟨g2, g3⟩ := cell_one E3.out); have W3 := Lib.hid (W2.out.but hb3); clear hm3 hb3)
            have hk := HK.out
            go_roundg (gk - 1)
            case rel => exact ⟨k + 1, by omega, by simp, _, _, _, ((heap_setCell_ne hpq).trans A3.out), (box_set E3.out), (W3.out.set 0 _), by omega, by omega, by omega, by omega, by omega, by omega, HR1.out⟩
            case measure => omega
          · rw [if_neg hn0] at hrun
            have HR1 := Lib.hid hrun
            clear hk hrun
            go_wp2_with (go_at_call 31; refine (use_small _ _ _ _ _ _ A1.out (by omega)).mono ?_; rintro e w' ⟨rfl, rfl⟩)
            have hk := HK.out
            go_roundg (gk - 1)
            case rel => exact ⟨k + 1, by omega, by simp, _, _, _, al ((heap_setCell_ne hpq).trans HA.out), al (box_set HE.out), ((W1.out.set 0 _).alloc _), by omega, by omega, by omega, by omega, by omega, by omega, HR1.out⟩
            case measure => omega
      · simp at hrun
        have HR1 := Lib.hid hrun
        clear hk hrun
        go_wp2_with (go_at_call 32; refine (fill_rel _ _ _ _ _ A1.out).mono ?_; rintro e w3 ⟨rfl, hm3, hb3⟩; have A3 := Lib.hid hm3; have E3 := Lib.hid ((hb3.block q (Ne.symm hpq)).trans E1.out); (obtain ⟨g2, g3⟩ := cell_one E3.out); have W3 := Lib.hid (W2.out.but hb3); clear hm3 hb3)
        have hk := HK.out
        go_roundg (gk - 1)
        case rel => exact ⟨k + 1, by omega, by simp, _, _, _, ((heap_setCell_ne hpq).trans A3.out), (box_set E3.out), (W3.out.set 0 _), by omega, by omega, by omega, by omega, by omega, by omega, HR1.out⟩
        case measure => omega
      · simp at hrun
        obtain ⟨c0, c1⟩ := clampN_le n
        obtain ⟨N, hN⟩ : ∃ N, N = clampN n := ⟨_, rfl⟩
        rw [← hN] at hrun c0 c1
        have HNN := Lib.hid hN
        clear hN hk
        have HRN := Lib.hid hrun
        clear hrun
        go_upto_region 9 with fail
        clear h6
        go_cut [8] (fun s8 wx => ∃ s : ByteArray, s8 = .string s ∧ (s.size : Int) = N ∧ Below (wr.alloc (.cells #[.int .u8 kk, .int .i64 n, .int .i64 m] 46)).heap.size (wr.alloc (.cells #[.int .u8 kk, .int .i64 n, .int .i64 m] 46)) wx)
        case first =>
          go_wp2_with (go_at_call 61; refine (rep_is _ (by omega) (by omega) _).mono ?_; rintro e w3 ⟨s, rfl, hs, hb⟩; have HS := Lib.hid hs; have HB3 := Lib.hid hb; clear hs hb)
          all_goals
            go_meet
            refine ⟨_, rfl, ?_, HB3.out⟩
            have h1 := HS.out; have h2 := HNN.out
            unfold clampN at h2
            omega
        obtain ⟨s, rfl, hs, hb⟩ := hcut
        obtain rfl : N = s.size := hs.symm
        have A3 := Lib.hid (carry hb A1.out)
        have E3 := Lib.hid (carry hb E1.out)
        have W3 := Lib.hid (W2.out.next hb)
        have B3 := Lib.hid hb
        have hm2 : wc.cell? ⟨wr.heap.size, 2, none⟩ = some (.int .i64 m) := by
          have := carry hb (nw (w := wr) (o := .cells #[.int .u8 kk, .int .i64 n, .int .i64 m] 46))
          simp [World.cell?, this]
        obtain ⟨g2, g3⟩ := cell_one E3.out
        clear hs hb g0 g1 e0 e1 e2
        have hrun := HRN.out
        by_cases hn : mostOf m < (s.size : Int)
        · rw [if_pos hn] at hrun
          have HR1 := Lib.hid hrun
          have HNF := Lib.hid (show 0 ≤ m ∧ m < (s.size : Int) ∨ 1048576 < s.size by unfold mostOf at hn; split at hn <;> omega)
          clear hrun HRN hn
          go_wp2_with (go_at_call 29; refine (fits_no s m (by omega) HNF.out _).mono ?_; rintro e w' ⟨rfl, rfl⟩)
          have hT := HR1.out
          subst hT
          exact ⟨rfl, doe_fault (K := 2) (M := (s.size : Int)) (by decide) (by decide), A3.out, E3.out, W3.out⟩
        · rw [if_neg hn] at hrun
          have HR1 := Lib.hid hrun
          have HNF := Lib.hid (show m < 0 ∨ (s.size : Int) ≤ m by unfold mostOf at hn; split at hn <;> omega)
          clear hrun HRN hn
          go_wp2_with (go_at_call 29; refine (fits_ok s m (by omega) HNF.out _).mono ?_; rintro e w' ⟨rfl, rfl⟩)
          have hk := HK.out
          go_roundg (gk - 1)
          case rel => exact ⟨k + 1, by omega, by simp, _, _, _, (heap_setCell_ne hpq).trans A3.out, box_set E3.out, W3.out.set 0 _, by omega, by omega, by omega, by omega, by omega, by omega, HR1.out⟩
          case measure => omega
      · simp at hrun
        obtain ⟨N, hN⟩ : ∃ N, N = n % 256 := ⟨_, rfl⟩
        have c0 : 0 ≤ N := by omega
        have c1 : N < 256 := by omega
        by_cases hn : N = 1 ∨ N = 2
        · have hn' := hn
          rw [hN] at hn
          rw [if_pos hn, ← hN] at hrun
          have HNN := Lib.hid hN; have HN2 := Lib.hid hn'
          clear hN hn hn'
          have HR1 := Lib.hid hrun
          clear hk hrun
          go_wp2_with (go_at_call 17; refine (throw_good _ _ (by have := HN2.out; have := HNN.out; omega) (by have := HN2.out; have := HNN.out; omega) _).mono ?_; rintro e w' ⟨rfl, rfl⟩)
          have hNN := HNN.out
          subst hNN
          have hT := HR1.out
          subst hT
          exact ⟨rfl, doe_fault (K := n % 256) (M := m) (by have := HN2.out; omega) (by have := HN2.out; omega), A1.out, E1.out, W2.out⟩
        · have hn' := hn
          rw [hN] at hn
          rw [if_neg hn] at hrun
          have HNN := Lib.hid hN; have HN2 := Lib.hid hn'
          clear hN hn hn'
          have HR1 := Lib.hid hrun
          clear hk hrun
          go_wp2_with (go_at_call 17; refine (throw_bad _ _ (by have := HN2.out; have := HNN.out; omega) _).mono ?_; rintro e w' ⟨rfl, rfl⟩)
          have hT := HR1.out
          subst hT
          exact ⟨rfl, doe_kind, A1.out, E1.out, W2.out⟩
      · simp at hrun
        have HR1 := Lib.hid hrun
        clear hk hrun
        go_wp2_with (go_at_call 16; refine (boom_is _ _).mono ?_; rintro e w3 ⟨x, rfl, hb3, hk3⟩; have B3 := Lib.hid hb3; have K3 := Lib.hid hk3; clear hb3 hk3)
        have hT := HR1.out
        subst hT
        exact ⟨rfl, doe_boom, (K3.out p).trans A1.out, (K3.out q).trans E1.out, W2.out.next B3.out⟩
    · obtain rfl : k = xs.length := by omega
      rw [List.drop_length] at hrun
      simp only [run] at hrun
      have HR1 := Lib.hid hrun
      clear hk hrun hA hE hb
      go_wp2_with fail
      go_end0
      have hT := HR1.out
      subst hT
      exact ⟨.inl ⟨rfl, rfl, rfl⟩, HA.out, HE.out, W1.out⟩
end Go.Proofs.Ytpjccbbemhjgbaa
