import Derived.Test.YtogdhmbdackeeaaTf
import Derived.Deep.Slices
import Derived.Deep.Fields
import Derived.ChangeSame
import Derived.ChangeSlices
import Derived.ProofKit
import Derived.OpenShut
namespace Go.Proofs.Ytogdhmbdackeeaa
open Go.RowKit Go.ChangeShapes Go.WideShapes Go.Deep
set_option linter.unusedVariables false

theorem does_true {M : Nat} {w : World} {n : Nat} {sz a i : Int} {v : Value} (ha0 : -9223372036854775808 ≤ a) (ha1 : a ≤ 9223372036854775807) (hi0 : -9223372036854775808 ≤ i) (hi1 : i ≤ 9223372036854775807)
    (hacts : Acts M w v n) (hM : M ≤ 1000) (hn : n ≤ 10000) :
    Calls Try.prog 27 #[.int .i64 sz, .int .i64 a, v, .int .i64 i] w fun e w' => e = .returned (.bool true) ∧ Below w.heap.size w w' := by
  by_cases h : sz < 2 ∨ 256 < sz ∨ a < 0 ∨ 281474976710656 < a
  · exact does_bad h
  · obtain ⟨K, rfl⟩ : ∃ K : Nat, sz = K := ⟨sz.toNat, by omega⟩
    exact does_good (by omega) (by omega) (by omega) (by omega) hi0 hi1 hacts hM hn

theorem plainAddr {W : World} {a : Addr} {u : Value} (h : W.cell? a = some u) : a = ⟨a.block, a.off, none⟩ := by
  obtain ⟨bb, oo, sp⟩ := a
  cases sp with
  | none => rfl
  | some s =>
    simp only [World.cell?] at h
    split at h <;> simp at h
theorem add_plain (b o j : Nat) : (⟨b, o, none⟩ : Addr).add j = ⟨b, o + j, none⟩ := by unfold Addr.add; split <;> simp_all

theorem cells57 : Try.prog.cellsOf 57 = 4 := by kernel_rfl
theorem cells5 : Try.prog.cellsOf 5 = 1 := by kernel_rfl
theorem cells3 : Try.prog.cellsOf 3 = 1 := by kernel_rfl
theorem cells23 : Try.prog.cellsOf 23 = 1 := by kernel_rfl

/-- Bytes that came in. -/
theorem open_bytes {H : Type} {enc : TypeId × Value → H} {W : World} {base : Nat} {held : Bool} {n : Nat} {v : Value} {y : DataW H × List MemPlace} (h : DataW.trod enc Try.prog W base (fun _ => true) held n 23 [v] = some y) :
    ∃ p, Reads W v p ∧ (∀ n c, v = .slice none n c → v = .slice none 0 0 ∧ p = []) ∧ p.length ≤ maxLen ∧ Bytes p := by
  rcases open_ints Try.underlying23 Try.underlying5 cells5 h with ⟨hcs, _⟩ | ⟨x, len1, cap1, z1, hcs, _, hlc, hcm, hz, _, hc, hwf⟩
  · obtain rfl : v = .slice none 0 0 := by simpa using hcs
    exact ⟨[], reads_nil, fun n c e => ⟨rfl, rfl⟩, Nat.zero_le _, fun x hx => by simp at hx⟩
  · obtain rfl : v = .slice (some x) len1 cap1 := by simpa using hcs
    simp only [if_true] at hz
    have hl : (z1.take len1).length = len1 := by rw [List.length_take]; omega
    refine ⟨z1.take len1, ⟨some x, cap1, by rw [hl], fun j hj => ?_⟩, fun n c e => by simp at e, by omega, fun y hy => by have := u8_of (hwf y (List.mem_of_mem_take hy)); omega⟩
    rw [hl] at hj
    have hx : x = ⟨x.block, x.off, none⟩ := by
      have h := hc 0 (by omega)
      rw [show x.add 0 = x from rfl] at h
      exact plainAddr h
    refine ⟨x.block, x.off, by rw [← hx], ?_⟩
    have h := hc j (by omega)
    rw [hx] at h
    have e : rd (z1.take len1) j = z1.getD j 0 := by
      simp [rd, List.getElem?_take_of_lt (show j < len1 by omega)]
    rw [e]
    by_cases h0 : j = 0
    · subst h0; exact h
    · simpa [Addr.add, h0] using h

/-- The four cells of an act that came in. -/
theorem open_act {H : Type} {enc : TypeId × Value → H} {W : World} {base : Nat} {held : Bool} {n : Nat} {cs : List Value} {y : DataW H × List MemPlace} (h : DataW.trod enc Try.prog W base (fun _ => true) held n 57 cs = some y) (hl : cs.length = 4) :
    ∃ (kind c N : Int) (bs : Value) (p : List Int), cs = [.int .u8 kind, .int .u8 c, .int .i64 N, bs] ∧ 0 ≤ kind ∧ kind ≤ 255 ∧ 0 ≤ c ∧ c ≤ 255 ∧ Reads W bs p ∧ (∀ n c, bs = .slice none n c → bs = .slice none 0 0 ∧ p = []) ∧ p.length ≤ maxLen ∧ Bytes p := by
  match cs, hl with
  | [c0, c1, c2, c3], _ =>
    obtain ⟨ys, n', _, _, _, hy, hf⟩ := DataW.trod_struct Try.underlying57 h
    match ys, hy with
    | [y0, y1, y2, y3], _ =>
      have h0 := hf 0 ⟨ "Kind", 5, 0, false, "", "", 0⟩ rfl
      have h1 := hf 1 ⟨ "C", 5, 1, false, "", "", 1⟩ rfl
      have h2 := hf 2 ⟨ "N", 3, 2, false, "", "", 8⟩ rfl
      have h3 := hf 3 ⟨ "Bytes", 23, 3, false, "", "", 16⟩ rfl
      dsimp only at h0 h1 h2 h3
      rw [cells5] at h0 h1
      rw [cells3] at h2
      rw [cells23] at h3
      obtain ⟨a, ea, _, wa⟩ := DataW.trod_int Try.underlying5 h0
      obtain ⟨b, eb, _, wb⟩ := DataW.trod_int Try.underlying5 h1
      obtain ⟨c, ec, _, wc⟩ := DataW.trod_int Try.underlying3 h2
      simp at ea eb ec
      subst ea eb ec
      have := u8_of wa; have := u8_of wb
      obtain ⟨p, hp⟩ := open_bytes (v := c3) (by simpa using h3)
      exact ⟨a, b, c, c3, p, rfl, by omega, by omega, by omega, by omega, hp⟩

/-- A slice of acts that came in. -/
def InActs (w : World) (v : Value) (n : Nat) : Prop := Acts maxLen w v n ∧ n ≤ maxLen
theorem open_acts {H : Type} {enc : TypeId × Value → H} {W : World} {base : Nat} {held : Bool} {n : Nat} {v : Value} {y : DataW H × List MemPlace} (h : DataW.trod enc Try.prog W base (fun _ => true) held n 55 [v] = some y) :
    ∃ m, InActs W v m := by
  rcases open_slice Try.underlying55 h with ⟨hcs, _⟩ | ⟨a, len, cap, m, n', D, Pl, hcs, _, hlc, hcm, hm, _, hi⟩
  · obtain rfl : v = .slice none 0 0 := by simpa using hcs
    exact ⟨0, ⟨none, 0, rfl, fun k hk => by omega⟩, Nat.zero_le _⟩
  · obtain rfl : v = .slice (some a) len cap := by simpa using hcs
    simp only [if_true] at hm
    subst hm
    rw [cells57] at hi
    refine ⟨len, ⟨some a, m, rfl, fun k hk => ?_⟩, by omega⟩
    have ha : a = ⟨a.block, a.off, none⟩ := by
      obtain ⟨cs', hc, ht⟩ := hi 0 (by omega)
      obtain ⟨_, hcl, hat⟩ := World.cells?_some hc
      obtain ⟨kind, c, N, bs, p, rfl, _⟩ := open_act ht hcl
      have e0 := hat 0 (by omega)
      simp only [List.getElem?_cons_zero] at e0
      rw [show (a.add (0 * 4)).add 0 = a from rfl] at e0
      exact plainAddr e0
    obtain ⟨cs', hc, ht⟩ := hi k (by omega)
    obtain ⟨_, hcl, hat⟩ := World.cells?_some hc
    obtain ⟨kind, c, N, bs, p, rfl, hw⟩ := open_act ht hcl
    have e0 := hat 0 (by omega); have e1 := hat 1 (by omega); have e2 := hat 2 (by omega); have e3 := hat 3 (by omega)
    simp only [List.getElem?_cons_zero, List.getElem?_cons_succ] at e0 e1 e2 e3
    rw [ha, add_plain, add_plain] at e0 e1 e2 e3
    exact ⟨a.block, a.off, by rw [← ha], kind, c, N, bs, p, e0, e1, e2, e3, hw⟩
end Go.Proofs.Ytogdhmbdackeeaa
