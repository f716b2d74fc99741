import Derived.Test.YtogdhmbdackeeaaO
import Derived.Deep.DeepCutAuto
import Derived.Deep.LoopGhost
namespace Go.Proofs.Ytogdhmbdackeeaa
open Go.RowKit
set_option linter.unusedVariables false

def sz (n : Int) : Int := 2 + n % 255
theorem sz_le {n : Int} (h0 : 0 ≤ n) (h1 : n ≤ 255) : 2 ≤ sz n ∧ sz n ≤ 256 := by unfold sz; omega
theorem sz_is (n : Int) (h0 : 0 ≤ n) (h1 : n ≤ 255) (w : World) : Calls Try.prog 12 #[.int .u8 n] w fun e w' => e = .returned (.int .i64 (sz n)) ∧ w = w' := by
  go_enter Try.func12, Try.ntmps12
  go_wp2_with fail
  go_ret
  exact ⟨rfl, rfl⟩

/-- Where s[lo:..] lies. -/
def tailA (ad : Option Addr) (cap lo : Nat) : Option Addr := match ad with
  | none => none
  | some a => if cap = lo then some a else some (a.add lo)
theorem slice_lh (w : World) (ad : Option Addr) (len cap lo hi : Nat) {l h : Int} (el : l = lo) (eh : h = hi) (h1 : lo ≤ hi) (h2 : hi ≤ cap) :
    (Instr.sliceAt 23 (.slice ad len cap) (some (.int .i64 l)) (some (.int .i64 h)) none).run Try.prog w = .ok (.slice (tailA ad cap lo) (hi - lo) (cap - lo)) w := by
  subst el; subst eh
  cases ad with
  | none => simp [Instr.sliceAt, go_sem, run_underlying Try.underlying23, tailA, h1, h2]
  | some a =>
    by_cases h : cap = lo
    · subst h
      simp [Instr.sliceAt, go_sem, run_underlying Try.underlying23, tailA, h1, h2]
    · simp [Instr.sliceAt, go_sem, run_underlying Try.underlying23, tailA, h, h1, h2]
theorem slice_l (w : World) (ad : Option Addr) (len cap lo : Nat) {l : Int} (el : l = lo) (h1 : lo ≤ len) (h2 : len ≤ cap) :
    (Instr.sliceAt 23 (.slice ad len cap) (some (.int .i64 l)) none none).run Try.prog w = .ok (.slice (tailA ad cap lo) (len - lo) (cap - lo)) w := by
  subst el
  cases ad with
  | none => simp [Instr.sliceAt, go_sem, run_underlying Try.underlying23, tailA, h1]
  | some a =>
    by_cases h : cap = lo
    · subst h
      simp [Instr.sliceAt, go_sem, run_underlying Try.underlying23, tailA, h1]
    · simp [Instr.sliceAt, go_sem, run_underlying Try.underlying23, tailA, h, h1]
theorem slice_h (w : World) (ad : Option Addr) (len cap hi : Nat) {h : Int} (eh : h = hi) (h2 : hi ≤ cap) :
    (Instr.sliceAt 23 (.slice ad len cap) none (some (.int .i64 h)) none).run Try.prog w = .ok (.slice ad hi cap) w := by
  subst eh
  cases ad with
  | none => simp [Instr.sliceAt, go_sem, run_underlying Try.underlying23, h2]
  | some a => simp [Instr.sliceAt, go_sem, run_underlying Try.underlying23, h2]
theorem Reads.sub {w : World} {sa : Option Addr} {cap lo k c : Nat} {p : List Int} (h : Reads w (.slice sa p.length c) p) (hp : p.length ≤ cap) (hl : lo + k ≤ p.length) : Reads w (.slice (tailA sa cap lo) k (cap - lo)) ((p.drop lo).take k) := by
  obtain ⟨sa', c', e, hc⟩ := h
  obtain rfl : sa = sa' := by simp only [Value.slice.injEq] at e; exact e.1
  have hk : ((p.drop lo).take k).length = k := by simp; omega
  refine ⟨tailA sa cap lo, cap - lo, by rw [hk], fun j hj => ?_⟩
  rw [hk] at hj
  obtain ⟨pb, po, e1, e2⟩ := hc (lo + j) (by omega)
  subst e1
  have hne : ¬ cap = lo := by omega
  have hplain : (⟨pb, po, none⟩ : Addr).add lo = ⟨pb, po + lo, none⟩ := by unfold Addr.add; split <;> simp_all
  refine ⟨pb, po + lo, by simp [tailA, hne, hplain], ?_⟩
  rw [Nat.add_assoc, e2]
  congr 2
  simp [rd, List.getElem?_take_of_lt hj]

theorem Reads.tail {w : World} {sa : Option Addr} {cap lo c : Nat} {p : List Int} (h : Reads w (.slice sa p.length c) p) (hp : p.length ≤ cap) (hl : lo ≤ p.length) : Reads w (.slice (tailA sa cap lo) (p.length - lo) (cap - lo)) (p.drop lo) := by
  have := h.sub (lo := lo) (k := p.length - lo) hp (by omega)
  rwa [List.take_of_length_le (by simp)] at this
theorem found_some {l p : List Int} {fr i : Nat} {v : Int} (h : FoundL l p fr v) (hi : Here l p i) (h1 : fr ≤ i) (h2 : i + p.length ≤ l.length) : ∃ A : Nat, v = A ∧ fr ≤ A ∧ A ≤ i ∧ A + p.length ≤ l.length ∧ Here l p A ∧ ∀ j : Nat, fr ≤ j → j < A → ¬ Here l p j := by
  rcases h with ⟨_, h⟩ | ⟨k, rfl, a, b, c, d⟩
  · exact (h i h1 h2 hi).elim
  · refine ⟨k, rfl, a, ?_, b, c, d⟩
    rcases Nat.lt_or_ge i k with hlt | hge
    · exact (d i h1 hlt hi).elim
    · exact hge
theorem found_none {l p : List Int} {fr : Nat} {v : Int} (h : FoundL l p fr v) (h2 : l.length < fr + p.length) : v = -1 := by
  rcases h with ⟨h, _⟩ | ⟨k, rfl, a, b, _⟩
  · exact h
  · omega

theorem wpList_append_g {P : Program} (w : World) {ops : Array Oper} {rest : List Oper} {o : Oper} {a : Act} {Q : Exit → Act → World → Prop} (hw : Region.wanted o (yielded ops a.tmps) = true) (s x : Operand) (t : TypeId)
    (ho : o.op = .call { callee := .builtin .append, args := #[s, x], argTypes := #[t, t] })
    (base : Nat) (e : TypeId) (i : TypeInfo) (z : Value) (size bytes : Nat) (ht : P.underlying t = some (.slice e)) (hi : P.info? e = some i) (hz : i.zero = some z)
    (hsize : i.size = size) (hby : i.bytes = bytes) (hzs : z.cells.size = size) (hsz : 0 < size)
    (v : Value) (n : Nat) (xs : List Value) (hs : a.eval s = v) (hown : w.ownsRow base e size v n xs)
    (ad : Addr) (m c : Nat) (news : List Value) (hx : a.eval x = .slice (some ad) m c) (hl : news.length = m * size) (hnews : ∀ j u, news[j]? = some u → w.cell? (ad.add j) = some u) (h1 : ∀ u ∈ news, u.oneCell' = true)
    (h63 : n + m ≤ maxLen) (hbytes : (n + m) * bytes ≤ 140737488355328) (hbase : base ≤ w.heap.size)
    (h : ∀ v' w', w'.ownsRow base e size v' (n + m) (xs ++ news) → w.grownBy w' v.ownBlock → (v' = .slice none 0 0 ↔ v = .slice none 0 0 ∧ m = 0) → wpList P ops Q rest (a.put o.dst v') w') : wpList P ops Q (o :: rest) a w :=
  wpList_step fun K hK => by
    rw [if_pos hw]
    exact wp_append_own w s x t ho base e i z size bytes ht hi hz hsize hby hzs hsz v n xs hs hown ad m c news hx hl hnews h1 h63 hbytes hbase fun v' w' h2 h3 h4 => hK _ _ (h v' w' h2 h3 h4)

theorem Buf.under {w w' : World} {b n : Nat} {s a : Int} {l : List Int} (H : Buf w b s l a) (hb : Below n w w') (h : b < n) : Buf w' b s l a := by
  obtain ⟨r, f, hB, hh⟩ := H; exact ⟨r, f, ⟨hB.1, (hb.block b h).trans hB.2⟩, hh⟩
theorem take_reads {w : World} {sa : Option Addr} {c n : Nat} {p : List Int} (h : Reads w (.slice sa p.length c) p) (hn : n ≤ p.length) : Reads w (.slice sa n c) (p.take n) := h.take hn

set_option maxRecDepth 100000 in
set_option maxHeartbeats 4000000 in
theorem finds_true (n c0 c1 fr : Int) (h0 : 0 ≤ n) (h1 : n ≤ 255) (g0 : 0 ≤ c0) (g1 : c0 ≤ 255) (g2 : 0 ≤ c1) (g3 : c1 ≤ 255) (hf0 : -9223372036854775808 ≤ fr) (hf1 : fr ≤ 9223372036854775807) (sa : Option Addr) (cap : Nat) (zs : List Int) (hz : Bytes zs) (hcap : zs.length ≤ cap) (hbig : cap ≤ 9223372036854775807) (hnil : sa = none → cap = 0 ∧ zs = []) (w : World) (hr : Reads w (.slice sa zs.length cap) zs) :
    Calls Try.prog 6 #[.int .u8 n, .slice sa zs.length cap, .agg #[.int .u8 c0, .int .u8 c1], .int .i64 fr] w fun e w' => e = .returned (.bool true) ∧ Below w.heap.size w w' := by
  have HR := Lib.hid hr
  have HZ := Lib.hid hz
  obtain ⟨s0, s1⟩ := sz_le h0 h1
  clear hr hz
  go_enter Try.func6, Try.ntmps6
  go_wp2_with fail
  refine (awake_true _).mono ?_
  rintro e w1 ⟨rfl, hb⟩
  have D1 := Lib.hid (carry hb (nw (w := w) (o := .cells #[.int .u8 c0, .int .u8 c1] 49)))
  have W1 := Lib.hid (bnext (balloc (Below.refl _ w) _) hb)
  have LL := lt_of_block D1.out
  clear hb
  dsimp only
  go_wp2_with (first | (go_at_call 12; refine (sz_is n h0 h1 _).mono ?_; rintro e w' ⟨rfl, rfl⟩))
  refine (bnew (sz n) 7 s0 s1 (by omega) (by omega) _).mono ?_
  rintro e w2 ⟨rfl, hb, hw⟩
  have B2 := Lib.hid hb
  have W2 := Lib.hid (bnext W1.out hw)
  replace D1 := Lib.hid (carry hw D1.out)
  have L1 := W1.out.size
  have L1b : w.heap.size < w1.heap.size := LL
  have L2 := lt_of_block D1.out
  clear hb hw
  dsimp only
  go_upto_region 6 with fail
  obtain ⟨m, hm⟩ : ∃ m, m = min (min zs.length 200) (sz n).toNat := ⟨_, rfl⟩
  have HM := Lib.hid hm
  clear hm
  go_cut [1] (fun s1 wx => s1 = .slice sa m cap ∧ wx = w2)
  case first =>
    go_wp2_with (first | (go_at_call 12; refine (sz_is n h0 h1 _).mono ?_; rintro e w' ⟨rfl, rfl⟩))
    all_goals
      go_meet
      refine ⟨?_, rfl⟩
      simp only [Value.slice.injEq, true_and, and_true]
      have hm := HM.out
      first | omega | (split at * <;> omega)
  case rest =>
    obtain ⟨rfl, rfl⟩ := hcut
    have hm := HM.out
    have m0 : m ≤ zs.length := by omega
    have m1 : m ≤ 200 := by omega
    have m2 : (m : Int) ≤ sz n := by omega
    clear hm HM
    obtain ⟨p, hp⟩ : ∃ p, p = zs.take m := ⟨_, rfl⟩
    have hpl : p.length = m := by rw [hp]; simp; omega
    have RP := Lib.hid (show Reads w (.slice sa p.length cap) p from by rw [hpl, hp]; exact HR.out.take m0)
    have BP := Lib.hid (show Bytes p from by rw [hp]; exact fun x hx => HZ.out x (List.mem_of_mem_take hx))
    clear hp HR HZ
    subst hpl
    go_wp2_with fail
    go_loopg [41] p.length (fun gk i wr => ∃ k : Nat, k + gk = p.length ∧ i = .int .i64 k ∧ Buf wr w1.heap.size (sz n) (p.take k) 7 ∧ Rg w1.heap.size (w1.heap.size + 1) wc wr)
    case atStart => exact ⟨0, by omega, rfl, B2.out, Rg.refl _ _ _⟩
    case round =>
      obtain ⟨k, hk, rfl, hb, hr⟩ := hrel
      have HR2 := Lib.hid hr
      have HBB := Lib.hid hb
      have HK := Lib.hid hk
      by_cases hlt : k < p.length
      · obtain ⟨sa', c, e, hc⟩ := RP.out
        obtain ⟨pb, po, e2, hcell⟩ := hc k hlt
        obtain rfl : sa = some ⟨pb, po, none⟩ := by
          simp only [Value.slice.injEq] at e
          rw [e.1, e2]
        have hblk : pb < w.heap.size := World.block_lt_of_cell? _ _ hcell
        have hcell2 : wr.cell? ⟨pb, po + k, none⟩ = some (.int .u8 (rd p k)) :=
          (hr.low.cell (p := ⟨pb, po + k, none⟩) (show pb < w1.heap.size by omega)).trans ((W2.out.cell (p := ⟨pb, po + k, none⟩) hblk).trans hcell)
        have htl : (p.take k).length = k := by rw [List.length_take]; omega
        clear hb hr hk hc hcell e e2
        go_wp2_with (go_at_call 17; refine (bput (c := rd p k) HBB.out (by rw [htl]; omega) (by rw [htl]; omega)).mono ?_; rintro e w3 ⟨rfl, hb2, hr2⟩; have HB2 := Lib.hid hb2; have HR3 := Lib.hid hr2; clear hb2 hr2)
        have hk := HK.out
        go_roundg (gk - 1)
        case rel =>
          refine ⟨k + 1, by omega, by simp, ?_, HR2.out.trans HR3.out⟩
          have e : p.take (k + 1) = p.take k ++ [rd p k] := by
            rw [List.take_add_one, List.getElem?_eq_getElem hlt]
            simp [rd, hlt]
          rw [e]
          exact HB2.out
        case measure => omega
      · obtain rfl : k = p.length := by omega
        have B3 := Lib.hid (show Buf wr w1.heap.size (sz n) p 7 from by have := HBB.out; rwa [List.take_length] at this)
        have W3 := Lib.hid (W2.out.trans (HR2.out.low.mono L1))
        have D3 := Lib.hid (HR2.out.keep (.inl (by have := L1b; omega)) D1.out)
        obtain ⟨d0, d1, _, _⟩ := cell_two D3.out
        clear hb hr hk HR2 HBB HK
        obtain ⟨I, hI⟩ : ∃ I : Nat, c0 % ((p.length : Int) + 1) = (I : Int) := ⟨(c0 % ((p.length : Int) + 1)).toNat, (Int.toNat_of_nonneg (Int.emod_nonneg _ (by omega))).symm⟩
        have hI1 : I ≤ p.length := by have := Int.emod_lt_of_pos c0 (show 0 < (p.length : Int) + 1 by omega); omega
        obtain ⟨K, hKK⟩ : ∃ K : Nat, c1 % ((p.length : Int) - (I : Int) + 1) = (K : Int) := ⟨(c1 % ((p.length : Int) - (I : Int) + 1)).toNat, (Int.toNat_of_nonneg (Int.emod_nonneg _ (by omega))).symm⟩
        have hK1 : I + K ≤ p.length := by have := Int.emod_lt_of_pos c1 (show 0 < (p.length : Int) - (I : Int) + 1 by omega); omega
        have hs1 := fun W => slice_lh W sa p.length cap I (I + K) (l := (I : Int)) (h := (I : Int) + (K : Int)) rfl (by push_cast; rfl) (by omega) (by omega)
        rw [Nat.add_sub_cancel_left] at hs1
        obtain ⟨q, hq⟩ : ∃ q, q = (p.drop I).take K := ⟨_, rfl⟩
        have hql : q.length = K := by rw [hq]; simp; omega
        have RQ := Lib.hid (show Reads w (.slice (tailA sa cap I) q.length (cap - I)) q from by rw [hql, hq]; exact RP.out.sub (by omega) (by omega))
        have HQ := Lib.hid hq
        have BQ := Lib.hid (show Bytes q from by rw [hq]; exact fun x hx => BP.out x (List.mem_of_mem_drop (List.mem_of_mem_take hx)))
        clear hq
        subst hql
        go_upto_region 13 with fail
        go_cut [13] (fun s13 wx => s13 = .int .i64 (I : Int) ∧ wx = wr)
        case first =>
          go_wp2_with fail
          go_meet
          exact ⟨by rw [← hI], rfl⟩
        obtain ⟨rfl, rfl⟩ := hcut
        clear hI
        go_upto_region 14 with fail
        go_cut [14] (fun s14 wx => s14 = .slice (tailA sa cap I) q.length (cap - I) ∧ wx = wc)
        case first =>
          go_wp2_with fail
          go_meet
          exact ⟨rfl, rfl⟩
        obtain ⟨rfl, rfl⟩ := hcut
        clear hKK d0 d1 hs1
        go_wp2_with fail
        have RQ3 := Lib.hid ((RQ.out.next ((W3.out))))
        have RP3 := Lib.hid ((RP.out.next ((W3.out))))
        refine (bfindi (fr := 0) B3.out RQ3.out (by omega) (by omega) (by omega)).mono ?_
        rintro e w4 ⟨v, rfl, hv, hb⟩
        obtain ⟨A, rfl, _, hA1, hA2, hA3, hA4⟩ := found_some hv (show Here p q I from HQ.out.symm) (by simp) (by omega)
        have B4 := Lib.hid (B3.out.next hb)
        have W4 := Lib.hid (bnext W3.out hb)
        have RQ4 := Lib.hid (RQ3.out.next hb)
        have RP4 := Lib.hid (RP3.out.next hb)
        have HA3 := Lib.hid hA3; have HA4 := Lib.hid hA4
        clear hv hb hA3 hA4 B3 W3 D3 RQ3 RP3
        have hs2 := fun W => slice_lh W sa p.length cap A (A + q.length) (l := (A : Int)) (h := (A : Int) + (q.length : Int)) rfl (by push_cast; rfl) (by omega) (by omega)
        rw [Nat.add_sub_cancel_left] at hs2
        dsimp only
        go_upto_region 16 with fail
        go_cut [92] (fun s92 wx => s92 = .bool false ∧ wx = w4)
        case first =>
          go_wp2_with fail
          have hd : decide ((p.drop A).take q.length = q) = true := by simpa [Here] using HA3.out
          have BA := Lib.hid (show Bytes ((p.drop A).take q.length) from fun x hx => BP.out x (List.mem_of_mem_drop (List.mem_of_mem_take hx)))
          have heq := equal_is (RP4.out.sub (cap := cap) (lo := A) (k := q.length) (by omega) (by omega)) RQ4.out BA.out BQ.out
          rw [hd] at heq
          refine heq.mono ?_
          rintro e w5 ⟨rfl, rfl⟩
          clear heq hd
          dsimp only
          go_wp2_with fail
          go_meet
          exact ⟨by simp; omega, rfl⟩
        obtain ⟨rfl, rfl⟩ := hcut
        clear hs2
        go_wp2_with fail
        go_loopg [94] A (fun gk i wx => ∃ k : Nat, k + gk = A ∧ i = .int .i64 k ∧ wx = wc)
        case atStart => exact ⟨0, by omega, rfl, rfl⟩
        case round =>
          obtain ⟨k, hk, rfl, rfl⟩ := hrel
          have HK := Lib.hid hk
          by_cases hlt2 : k < A
          · have hsl := fun W => slice_l W sa p.length cap k (l := (k : Int)) rfl (by omega) (by omega)
            have hd : decide ((p.drop k).take q.length = q) = false := by simpa [Here] using HA4.out k (by simp) hlt2
            have BA2 := Lib.hid (show Bytes (p.drop k) from fun x hx => BP.out x (List.mem_of_mem_drop hx))
            have heq := prefix_is (RP4.out.tail (cap := cap) (lo := k) (by omega) (by omega)) RQ4.out BA2.out BQ.out (by simp; omega) ⟨_, _, _, rfl, by omega⟩
            rw [hd] at heq
            have HE := Lib.hid heq
            clear hk heq hd
            go_wp2_with (go_at_call 24; refine HE.out.mono ?_; rintro e w' ⟨rfl, rfl⟩)
            have hk := HK.out
            go_roundg (gk - 1)
            case rel => exact ⟨k + 1, by omega, by simp, rfl⟩
            case measure => omega
          · obtain rfl : k = A := by omega
            clear hk
            go_wp2_with fail
            refine (bfindi (fr := (I : Int)) B4.out RQ4.out (by omega) (by omega) (by omega)).mono ?_
            rintro e w5 ⟨v, rfl, hv, hb⟩
            rw [show (I : Int).toNat = I by omega] at hv
            obtain ⟨A2, rfl, hB1, hB2, _⟩ := found_some hv (show Here p q I from HQ.out.symm) (by omega) (by omega)
            obtain rfl : I = A2 := by omega
            have B5 := Lib.hid (B4.out.next hb)
            have W5 := Lib.hid (bnext W4.out hb)
            have RQ5 := Lib.hid (RQ4.out.next hb)
            have RP5 := Lib.hid (RP4.out.next hb)
            clear hv hb B4 W4 RQ4 RP4 hB1 hB2
            dsimp only
            go_wp2_with fail
            refine (clone_is RP5.out (by omega) (fun n c e => ?_)).mono ?_
            · simp only [Value.slice.injEq] at e
              obtain ⟨rfl, _, _⟩ := e
              obtain ⟨z1, z2⟩ := hnil rfl
              have : p.length = 0 := by omega
              exact ⟨by rw [this, z1], List.length_eq_zero_iff.1 this⟩
            rintro e w6 ⟨v, rfl, hrow, hb⟩
            have B6 := Lib.hid (B5.out.next hb)
            have W6 := Lib.hid (bnext W5.out hb)
            have RQ6 := Lib.hid (RQ5.out.next hb)
            have RW := Lib.hid (show Row w6 w5.heap.size v p from hrow)
            have N6 := hb.size
            have HB56 := Lib.hid hb
            have L5 := B5.out.lt
            have N5 := W5.out.size
            clear hrow hb B5 W5 RP5 RQ6
            dsimp only
            obtain ⟨i0, hi, hz0, hz1, hz2⟩ := info_parts infoByte
            go_wp2_with (at_builtin; refine wpList_append_g _ (by rfl) _ _ 23 rfl w5.heap.size 5 i0 (.int .u8 0) 1 1 Try.underlying23 hi hz0 hz1 hz2 rfl (by decide) v p.length (p.map (.int .u8)) rfl (RW.out.alloc _) ⟨w6.heap.size, 0, none⟩ 1 1 [.int .u8 120] rfl rfl (cell_one_new _ _ _) (by simp [Value.oneCell']) (by simp [maxLen]; omega) (by omega) (by simp; omega) ?_; intro v' w7 hown' hgrow _; have HO := Lib.hid hown'; have HG := Lib.hid (grown_below N6 (RW.out.alloc _) hgrow); clear hown' hgrow)
            have B7 := Lib.hid (B6.out.under HG.out L5)
            have W7 := Lib.hid (W6.out.trans (HG.out.mono N5))
            have RQ7 := Lib.hid (RQ5.out.next (HB56.out.trans HG.out))
            have RV := Lib.hid (Row.reads (show Row w7 w5.heap.size v' (p ++ [120]) from by
              have := HO.out
              simpa [Row] using this))
            clear HO HG B6 W6 RQ5 RW HB56
            refine (bfindi (fr := 0) B7.out RV.out (by simp; omega) (by omega) (by omega)).mono ?_
            rintro e w8 ⟨u, rfl, hv, hb⟩
            obtain rfl := found_none hv (by simp)
            have B8 := Lib.hid (B7.out.next hb)
            have W8 := Lib.hid (bnext W7.out hb)
            have RQ8 := Lib.hid (RQ7.out.next hb)
            clear hv hb B7 W7 RQ7 RV
            dsimp only
            go_wp2_with fail
            by_cases hbad : fr < 0 ∨ (p.length : Int) < fr
            · refine (find_bad B8.out hbad).mono ?_
              rintro e w9 ⟨rfl, hb⟩
              have B9 := Lib.hid (B8.out.next hb)
              have W9 := Lib.hid (bnext W8.out hb)
              have hdec : (decide (fr < 0) || decide ((p.length : Int) < fr)) = true := by simpa using hbad
              clear hb B8 W8
              dsimp only
              go_wp2_with fail
              all_goals
                refine (find_bad B9.out hbad).mono ?_
                rintro e w10 ⟨rfl, hb⟩
                have W10 := Lib.hid (bnext W9.out hb)
                clear hb
                dsimp only
                go_wp2_with fail
                go_ret
                exact ⟨rfl, W10.out⟩
            · have hf2 : 0 ≤ fr ∧ fr ≤ p.length := by omega
              obtain ⟨hf2, hf3⟩ := hf2
              clear hbad
              refine (bfindi B8.out reads_nil (by simp) hf2 hf3).mono ?_
              rintro e w9 ⟨u, rfl, hv, hb⟩
              obtain ⟨A3, rfl, hC1, hC2, _⟩ := found_some (i := fr.toNat) hv (by simp [Here]) (Nat.le_refl _) (by simp; omega)
              have hA3 : (A3 : Int) = fr := by omega
              have W9 := Lib.hid (bnext W8.out hb)
              clear hv hb B8 W8
              rw [hA3]
              dsimp only
              go_wp2_with fail
              go_ret
              exact ⟨rfl, W9.out⟩
end Go.Proofs.Ytogdhmbdackeeaa
