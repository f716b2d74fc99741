import Derived.Test.YtogdhmbdackeeaaL
import Derived.Lib.SliceRun
import Derived.OwnWalk
namespace Go.Proofs.Ytogdhmbdackeeaa
open Go.RowKit
set_option linter.unusedVariables false

theorem Reads.cells {w : World} {ad : Addr} {c n : Nat} {p : List Int} (h : Reads w (.slice (some ad) n c) p) : ∀ (j : Nat) (u : Value), (p.map (Value.int .u8))[j]? = some u → w.cell? (ad.add j) = some u := by
  intro j u hu
  obtain ⟨sa, c', e, hc⟩ := h
  have hj : j < p.length := by
    have := (List.getElem?_eq_some_iff.1 hu).1
    simpa using this
  obtain ⟨pb, po, e1, e2⟩ := hc j hj
  rw [e1] at e
  obtain rfl : ad = ⟨pb, po, none⟩ := by simp only [Value.slice.injEq, Option.some.injEq] at e; exact e.1
  have hplain : (⟨pb, po, none⟩ : Addr).add j = ⟨pb, po + j, none⟩ := by unfold Addr.add; split <;> simp_all
  rw [hplain, e2]
  simpa [rd, hj] using hu
theorem ones {p : List Int} : ∀ u ∈ p.map (Value.int .u8), u.oneCell' = true := by
  intro u hu
  obtain ⟨x, _, rfl⟩ := List.mem_map.1 hu
  rfl
theorem Row.nil_new {w : World} : (w.alloc (.cells #[] 5)).ownsRow w.heap.size 5 1 (.slice (some ⟨w.heap.size, 0, none⟩) 0 0) 0 [] :=
  ⟨rfl, .inr ⟨w.heap.size, 0, #[], rfl, Nat.le_refl _, nw, Nat.le_refl _, Nat.zero_le _, rfl, rfl⟩⟩
theorem grown_below {w w' : World} {o : Obj} {v : Value} {B n : Nat} {xs : List Value} (hB : B ≤ w.heap.size) (ho : (w.alloc o).ownsRow B 5 1 v n xs) (hg : (w.alloc o).grownBy w' v.ownBlock) : Below B w w' := by
  refine ((Below.refl B w).alloc hB o).grown hg (by simp; omega) fun j ej => ?_
  rcases ho.2 with ⟨rfl, _⟩ | ⟨g, cap, cur, rfl, hb, _⟩
  · simp [Value.ownBlock] at ej
  · obtain rfl : g = j := by simpa [Value.ownBlock] using ej
    exact hb

theorem clone_is {w : World} {u : Value} {p : List Int} (h : Reads w u p) (hl : p.length ≤ 1000) (hn : ∀ n c, u = .slice none n c → u = .slice none 0 0 ∧ p = []) :
    Calls Try.prog 25 #[u] w fun e w' => ∃ v, e = .returned v ∧ Row w' w.heap.size v p ∧ Below w.heap.size w w' := by
  have q22 : ∀ (w : World) (a : Option Addr) (n c n' c' : Nat), (binOp .eql 23 (.slice a n c) (.slice none n' c')).run Try.prog w = .ok (.bool a.isNone) w := fun w a n c n' c' => Lib.run_eql_slice_nil w _ _ a n c n' c' Try.underlying23
  have HH := Lib.hid h
  obtain ⟨sa, c, rfl, hc⟩ := h
  cases sa with
  | none =>
    obtain ⟨e, rfl⟩ := hn _ _ rfl
    simp only [Value.slice.injEq, true_and] at e
    obtain ⟨_, rfl⟩ := e
    go_enter Try.func25, Try.ntmps25
    go_wp2_with fail
    go_ret
    exact ⟨_, rfl, ⟨rfl, .inl ⟨rfl, rfl⟩⟩, Below.refl _ _⟩
  | some ad =>
    clear hc hn
    obtain ⟨i0, hi, hz0, hz1, hz2⟩ := info_parts infoByte
    have hcells := (HH.out.next ((Below.refl _ w).alloc (Nat.le_refl _) (.cells #[] 5))).cells
    go_enter Try.func25, Try.ntmps25
    go_wp2_with (at_builtin; refine wpList_append_own _ rfl _ _ 23 rfl w.heap.size 5 i0 (.int .u8 0) 1 1 Try.underlying23 hi hz0 hz1 hz2 rfl (by decide) _ _ _ rfl Row.nil_new ad p.length c (p.map (.int .u8)) rfl (by simp) hcells ones (by simp [maxLen]; omega) (by omega) (by simp) ?_; intro v' w2 hown' hgrow _; have HO := Lib.hid hown'; have HG := Lib.hid hgrow; clear hown' hgrow)
    go_ret
    refine ⟨_, rfl, ?_, grown_below (Nat.le_refl _) Row.nil_new HG.out⟩
    have := HO.out
    rw [Nat.zero_add, List.nil_append] at this
    exact this
end Go.Proofs.Ytogdhmbdackeeaa
