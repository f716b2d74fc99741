import Derived.Test.YtpjccbbemhjgbaaY
import Derived.Deep.Slices
import Derived.Deep.Fields
import Derived.ChangeSame
import Derived.ProofKit
import Derived.OpenShut
namespace Go.Proofs.Ytpjccbbemhjgbaa
open Go.RowKit Go.ChangeShapes Go.WideShapes Go.Deep
set_option linter.unusedVariables false

theorem plainAddr {W : World} {a : Addr} {u : Value} (h : W.cell? a = some u) : a = ⟨a.block, a.off, none⟩ := by
  obtain ⟨bb, oo, sp⟩ := a
  cases sp with
  | none => rfl
  | some s =>
    simp only [World.cell?] at h
    split at h <;> simp at h
theorem add_plain (b o j : Nat) : (⟨b, o, none⟩ : Addr).add j = ⟨b, o + j, none⟩ := by unfold Addr.add; split <;> simp_all

theorem cells46 : Try.prog.cellsOf 46 = 3 := by kernel_rfl
theorem cells43 : Try.prog.cellsOf 43 = 1 := by kernel_rfl

/-- The three cells of a step that came in. -/
theorem open_step {H : Type} {enc : TypeId × Value → H} {W : World} {base : Nat} {held : Bool} {n : Nat} {cs : List Value} {y : DataW H × List MemPlace} (h : DataW.trod enc Try.prog W base (fun _ => true) held n 46 cs = some y) (hl : cs.length = 3) :
    ∃ x : Stp, cs = cell3 x ∧ 0 ≤ x.1 ∧ x.1 ≤ 255 ∧ -9223372036854775808 ≤ x.2.1 ∧ x.2.1 ≤ 9223372036854775807 ∧ -9223372036854775808 ≤ x.2.2 ∧ x.2.2 ≤ 9223372036854775807 := by
  match cs, hl with
  | [c0, c1, c2], _ =>
    obtain ⟨ys, n', _, _, _, hy, hf⟩ := DataW.trod_struct Try.underlying46 h
    have c5 : Try.prog.cellsOf 5 = 1 := by kernel_rfl
    have c3 : Try.prog.cellsOf 3 = 1 := by kernel_rfl
    match ys, hy with
    | [y0, y1, y2], _ =>
      have h0 := hf 0 ⟨ "Kind", 5, 0, false, "", "", 0⟩ rfl
      have h1 := hf 1 ⟨ "N", 3, 1, false, "", "", 8⟩ rfl
      have h2 := hf 2 ⟨ "Most", 3, 2, false, "", "", 16⟩ rfl
      dsimp only at h0 h1 h2
      rw [c5] at h0
      rw [c3] at h1 h2
      obtain ⟨a, ea, _, wa⟩ := DataW.trod_int Try.underlying5 h0
      obtain ⟨b, eb, _, wb⟩ := DataW.trod_int Try.underlying3 h1
      obtain ⟨c, ec, _, wc⟩ := DataW.trod_int Try.underlying3 h2
      simp at ea eb ec
      subst ea eb ec
      have := u8_of wa; have := i64_of wb; have := i64_of wc
      exact ⟨(a, b, c), rfl, by dsimp only; omega, by dsimp only; omega, by dsimp only; omega, by dsimp only; omega, by dsimp only; omega, by dsimp only; omega⟩

theorem list_of {α : Type} {p : Nat → α → Prop} : ∀ (n : Nat), (∀ i, i < n → ∃ x, p i x) → ∃ l : List α, l.length = n ∧ ∀ i x, l[i]? = some x → p i x
  | 0, _ => ⟨[], rfl, fun i x h => by simp at h⟩
  | n + 1, h => by
    obtain ⟨l, hl, hp⟩ := list_of n (fun i hi => h i (by omega))
    obtain ⟨x, hx⟩ := h n (by omega)
    refine ⟨l ++ [x], by simp [hl], fun i y hy => ?_⟩
    rcases Nat.lt_or_ge i l.length with hi | hi
    · rw [List.getElem?_append_left hi] at hy; exact hp i y hy
    · have : i = n := by
        have := (List.getElem?_eq_some_iff.1 hy).1
        simp at this; omega
      subst this
      rw [List.getElem?_append_right hi, hl] at hy
      simp at hy
      subst hy; exact hx

theorem open_steps {H : Type} {enc : TypeId × Value → H} {W : World} {base : Nat} {held : Bool} {n : Nat} {v : Value} {y : DataW H × List MemPlace} (h : DataW.trod enc Try.prog W base (fun _ => true) held n 43 [v] = some y) :
    ∃ xs, WfS xs ∧ Reads3 W v xs ∧ xs.length ≤ maxLen := by
  rcases open_slice Try.underlying43 h with ⟨hcs, _⟩ | ⟨a, len, cap, m, n', D, Pl, hcs, _, hlc, hcm, hm, _, hi⟩
  · obtain rfl : v = .slice none 0 0 := by simpa using hcs
    exact ⟨[], fun x hx => by simp at hx, ⟨none, 0, rfl, fun j x hj => by simp at hj⟩, Nat.zero_le _⟩
  · obtain rfl : v = .slice (some a) len cap := by simpa using hcs
    simp only [if_true] at hm
    subst hm
    rw [cells46] at hi
    have ha : 0 < len → a = ⟨a.block, a.off, none⟩ := fun h0 => by
      obtain ⟨cs', hc, ht⟩ := hi 0 (by omega)
      obtain ⟨_, hcl, hat⟩ := World.cells?_some hc
      obtain ⟨x, rfl, _⟩ := open_step ht hcl
      have e0 := hat 0 (by omega)
      simp only [cell3, List.getElem?_cons_zero] at e0
      rw [show (a.add (0 * 3)).add 0 = a from rfl] at e0
      exact plainAddr e0
    obtain ⟨xs, hxl, hxs⟩ := list_of (p := fun i (x : Stp) => (0 ≤ x.1 ∧ x.1 ≤ 255 ∧ -9223372036854775808 ≤ x.2.1 ∧ x.2.1 ≤ 9223372036854775807 ∧ -9223372036854775808 ≤ x.2.2 ∧ x.2.2 ≤ 9223372036854775807) ∧
        ∃ pb po, some a = some (⟨pb, po, none⟩ : Addr) ∧ W.cell? ⟨pb, po + i * 3, none⟩ = some (.int .u8 x.1) ∧ W.cell? ⟨pb, po + i * 3 + 1, none⟩ = some (.int .i64 x.2.1) ∧ W.cell? ⟨pb, po + i * 3 + 2, none⟩ = some (.int .i64 x.2.2)) len (fun i hil => by
      obtain ⟨cs', hc, ht⟩ := hi i (by omega)
      obtain ⟨_, hcl, hat⟩ := World.cells?_some hc
      obtain ⟨x, rfl, hw⟩ := open_step ht hcl
      refine ⟨x, hw, ?_⟩
      have e0 := hat 0 (by omega); have e1 := hat 1 (by omega); have e2 := hat 2 (by omega)
      simp only [cell3, List.getElem?_cons_zero, List.getElem?_cons_succ] at e0 e1 e2
      have ha := ha (by omega)
      rw [ha, add_plain, add_plain] at e0 e1 e2
      exact ⟨a.block, a.off, by rw [← ha], e0, e1, e2⟩)
    refine ⟨xs, fun x hx => ?_, ⟨some a, m, by rw [hxl], fun j x hj => (hxs j x hj).2⟩, by omega⟩
    obtain ⟨j, hj⟩ := List.mem_iff_getElem?.1 hx
    exact (hxs j x hj).1

theorem open_stepss {H : Type} {enc : TypeId × Value → H} {W : World} {base : Nat} {held : Bool} {n : Nat} {v : Value} {y : DataW H × List MemPlace} (h : DataW.trod enc Try.prog W base (fun _ => true) held n 42 [v] = some y) :
    ∃ ls : List (List Stp), (∀ xs ∈ ls, WfS xs ∧ xs.length ≤ maxLen) ∧ ReadsSS W v ls ∧ ls.length ≤ maxLen := by
  rcases open_slice1 Try.underlying42 cells43 h with ⟨hcs, _⟩ | ⟨a, len, cap, m, n', V, D, Pl, hcs, _, hlc, hcm, hm, _, hi⟩
  · obtain rfl : v = .slice none 0 0 := by simpa using hcs
    exact ⟨[], fun x hx => by simp at hx, ⟨none, 0, rfl, fun j x hj => by simp at hj⟩, Nat.zero_le _⟩
  · obtain rfl : v = .slice (some a) len cap := by simpa using hcs
    simp only [if_true] at hm
    subst hm
    have ha : 0 < len → a = ⟨a.block, a.off, none⟩ := fun h0 => by
      have := (hi 0 (by omega)).1
      rw [show a.add 0 = a from rfl] at this
      exact plainAddr this
    obtain ⟨ls, hll, hls⟩ := list_of (p := fun i (xs : List Stp) => (WfS xs ∧ xs.length ≤ maxLen) ∧ ∃ pb po s, some a = some (⟨pb, po, none⟩ : Addr) ∧ W.cell? ⟨pb, po + i, none⟩ = some s ∧ Reads3 W s xs) len (fun i hil => by
      obtain ⟨hc, ht⟩ := hi i (by omega)
      obtain ⟨xs, hw, hr, hl⟩ := open_steps ht
      refine ⟨xs, ⟨hw, hl⟩, ?_⟩
      have ha := ha (by omega)
      rw [ha, add_plain] at hc
      exact ⟨a.block, a.off, _, by rw [← ha], hc, hr⟩)
    refine ⟨ls, fun x hx => ?_, ⟨some a, m, by rw [hll], fun j x hj => (hls j x hj).2⟩, by omega⟩
    obtain ⟨j, hj⟩ := List.mem_iff_getElem?.1 hx
    exact (hls j x hj).1

/-- A slice of slices of steps that came in. -/
def InSS (w : World) (v : Value) (ls : List (List Stp)) : Prop := (∀ xs ∈ ls, WfS xs ∧ xs.length ≤ maxLen) ∧ ReadsSS w v ls ∧ ls.length ≤ maxLen
theorem open_inSS {H : Type} {enc : TypeId × Value → H} {W : World} {base : Nat} {held : Bool} {n : Nat} {v : Value} {y : DataW H × List MemPlace} (h : DataW.trod enc Try.prog W base (fun _ => true) held n 42 [v] = some y) : ∃ ls, InSS W v ls := open_stepss h

theorem runs_any {w : World} (F : Int) (ls : List (List Stp)) (hwf : WfSS ls) (hlen : ls.length ≤ 12) (v : Value) (hr : ReadsSS w v ls) :
    Calls Try.prog 24 #[.int .i64 F, v] w fun e w' => e = .returned (.bool true) ∧ Below w.heap.size w w' := by
  by_cases h : F < 0 ∨ 1048576 < F
  · exact runs_bad F v h
  · exact runs_good F ls hwf hlen v hr (by omega) (by omega)

set_option maxRecDepth 100000 in
set_option maxHeartbeats 4000000 in
theorem faultRuns_true {w : World} (F : Int) (ls : List (List Stp)) (hwf : ∀ xs ∈ ls, WfS xs ∧ xs.length ≤ maxLen) (hlen : ls.length ≤ maxLen) (v : Value) (hr : ReadsSS w v ls) :
    Calls Try.prog 5 #[.int .i64 F, v] w fun e w' => e = .returned (.bool true) ∧ Below w.heap.size w w' := by
  have HR := Lib.hid hr
  have HWF := Lib.hid hwf
  unfold maxLen at hlen
  obtain ⟨sa, c, rfl, hc⟩ := hr
  clear hc hwf
  by_cases hl : (12 : Int) < ls.length
  · go_enter Try.func5, Try.ntmps5
    go_wp2_with (go_at_call 18; refine (awake_true _).mono ?_; rintro e w1 ⟨rfl, hb⟩; have W1 := Lib.hid hb; clear hb)
    go_ret
    exact ⟨rfl, W1.out⟩
  · go_enter Try.func5, Try.ntmps5
    go_wp2_with fail
    go_loopg [13] ls.length (fun gk i wr => ∃ j : Nat, j + gk = ls.length ∧ i = .int .i64 j ∧ wr = w ∧ ∀ k xs, k < j → ls[k]? = some xs → xs.length ≤ 12)
    case atStart => exact ⟨0, by omega, rfl, rfl, fun k xs h => by omega⟩
    case round =>
      obtain ⟨j, hj, rfl, rfl, hk⟩ := hrel
      have HK := Lib.hid hk; have HJ := Lib.hid hj
      clear hk hj
      by_cases hlt : j < ls.length
      · obtain ⟨xs, hx⟩ : ∃ xs, ls[j]? = some xs := ⟨_, List.getElem?_eq_getElem hlt⟩
        have hrr := HR.out
        obtain ⟨sa', c', e, hc⟩ := hrr
        obtain ⟨pb, po, s, e2, hcell, hrs⟩ := hc j xs hx
        obtain rfl : sa = some ⟨pb, po, none⟩ := by simp only [Value.slice.injEq] at e; rw [e.1, e2]
        have hxl := (HWF.out xs (List.mem_of_getElem? hx)).2
        unfold maxLen at hxl
        obtain ⟨sb, cs, rfl, hjunk⟩ := hrs
        have HX := Lib.hid hx
        clear hc e e2 hjunk hx
        by_cases h12 : (12 : Int) < xs.length
        · go_wp2_with (go_at_call 18; refine (awake_true _).mono ?_; rintro e w1 ⟨rfl, hb⟩; have W1 := Lib.hid hb; clear hb)
          go_ret
          exact ⟨rfl, W1.out⟩
        · go_wp2_with fail
          have hj := HJ.out
          go_roundg (gk - 1)
          case rel =>
            refine ⟨j + 1, by omega, by simp, rfl, fun k ys hk hy => ?_⟩
            rcases Nat.lt_or_ge k j with h | h
            · exact HK.out k ys h hy
            · obtain rfl : k = j := by omega
              rw [HX.out] at hy
              obtain rfl : xs = ys := by simpa using hy
              omega
          case measure => omega
      · have hj := HJ.out
        obtain rfl : j = ls.length := by omega
        clear hj
        have HW2 := Lib.hid (show WfSS ls from fun xs hx => by
          obtain ⟨k, hk⟩ := List.mem_iff_getElem?.1 hx
          exact ⟨(HWF.out xs hx).1, HK.out k xs (List.getElem?_eq_some_iff.1 hk).1 hk⟩)
        go_wp2_with (first | (go_at_call 24; refine (runs_any F ls HW2.out (by omega) _ HR.out).mono ?_; rintro e w1 ⟨rfl, hb⟩; have W1 := Lib.hid hb; clear hb) | (go_at_call 18; refine (awake_true _).mono ?_; rintro e w2 ⟨rfl, hb⟩; have W2 := Lib.hid (bnext W1.out hb); clear hb))
        go_ret
        exact ⟨rfl, W2.out⟩
end Go.Proofs.Ytpjccbbemhjgbaa
