import Derived.Test.YtogdhmbdackeeaaK
import Derived.Laws.BytesArg
import Derived.Lib.Bytes
namespace Go.Proofs.Ytogdhmbdackeeaa
open Go.RowKit
set_option linter.unusedVariables false

def Bytes (l : List Int) : Prop := ∀ x ∈ l, 0 ≤ x ∧ x < 256

theorem Reads.conv {w : World} {v : Value} {p : List Int} (h : Reads w v p) : (convert 23 9 v).run Try.prog w = .ok (.string (strOfNums p)) w := by
  obtain ⟨sa, c, rfl, hc⟩ := h
  cases p with
  | nil =>
    cases sa with
    | none => exact run_convert_bytes_nil (w := w) 23 5 Try.underlying23 Try.underlying5 0 c 9 Try.underlying9
    | some ad =>
      have e := run_convert_bytes_string (P := Try.prog) w 23 9 5 (some ad) 0 c Try.underlying23 Try.underlying5 Try.underlying9
      rw [List.length_nil, e]
      simp [loadCells, loadCellsFrom, strOfNums, Conv.bytesToString, ByteArray.empty, ByteArray.emptyWithCapacity]
      rfl
  | cons x p =>
    obtain ⟨pb, po, rfl, _⟩ := hc 0 (by simp)
    refine run_convert_bytes_arg w 23 5 Try.underlying23 Try.underlying5 pb po _ c (x :: p) rfl (fun i hi => ?_) 9 Try.underlying9
    obtain ⟨pb', po', e, h2⟩ := hc i hi
    cases e
    exact h2
theorem bytes_inj : ∀ {p q : List Int}, Bytes p → Bytes q → (p.map fun n => UInt8.ofNat n.toNat) = (q.map fun n => UInt8.ofNat n.toNat) → p = q
  | [], [], _, _, _ => rfl
  | [], _ :: _, _, _, h => by simp at h
  | _ :: _, [], _, _, h => by simp at h
  | x :: p, y :: q, hp, hq, h => by
    simp only [List.map_cons, List.cons.injEq] at h
    have a := hp x (by simp); have b := hq y (by simp)
    have e : x.toNat = y.toNat := by
      have := congrArg UInt8.toNat h.1
      simp only [UInt8.toNat_ofNat'] at this
      omega
    rw [bytes_inj (fun z hz => hp z (by simp [hz])) (fun z hz => hq z (by simp [hz])) h.2, show x = y by omega]
theorem str_eq {p q : List Int} (hp : Bytes p) (hq : Bytes q) : ((strOfNums p).toList == (strOfNums q).toList) = decide (p = q) := by
  rw [Lib.strOfNums_toList, Lib.strOfNums_toList]
  by_cases h : p = q
  · subst h; simp
  · have : ¬ Lib.bytesOf p = Lib.bytesOf q := fun e => h (bytes_inj hp hq e)
    rw [decide_eq_false h]
    simpa using this

theorem equal_is {w : World} {u v : Value} {p q : List Int} (h1 : Reads w u p) (h2 : Reads w v q) (hp : Bytes p) (hq : Bytes q) :
    Calls Try.prog 19 #[u, v] w fun e w' => e = .returned (.bool (decide (p = q))) ∧ w = w' := by
  have f1 := h1.conv
  have f2 := h2.conv
  obtain ⟨sa, c, rfl, _⟩ := h1
  obtain ⟨sb, d, rfl, _⟩ := h2
  have HB := Lib.hid (str_eq hp hq)
  go_enter Try.func19, Try.ntmps19
  go_wp2_with fail
  go_ret
  exact ⟨congrArg (fun x => Ending.returned (.bool x)) HB.out, rfl⟩

theorem prefix_is {w : World} {u v : Value} {p q : List Int} (h1 : Reads w u p) (h2 : Reads w v q) (hp : Bytes p) (hq : Bytes q) (hl : p.length ≤ 1000) (hcap : ∃ sa n c, u = .slice sa n c ∧ n ≤ c) :
    Calls Try.prog 24 #[u, v] w fun e w' => e = .returned (.bool (decide (p.take q.length = q))) ∧ w = w' := by
  have H2 := Lib.hid h2
  have H1 := Lib.hid h1
  have HP := Lib.hid hp; have HQ := Lib.hid hq
  clear hp hq
  obtain ⟨sa, c, rfl, hc1⟩ := h1
  obtain ⟨sb, d, rfl, hc2⟩ := h2
  obtain ⟨_, _, _, e, hcap⟩ := hcap
  cases e
  by_cases h : q.length ≤ p.length
  · have hb : ∀ x ∈ p.take q.length, 0 ≤ x ∧ x < 256 := fun x hx => HP.out x (List.mem_of_mem_take hx)
    have HB := Lib.hid (show Bytes (p.take q.length) from hb)
    clear hb
    have HT := Lib.hid (H1.out.take h)
    cases sa with
    | none =>
      have hz : p.length = 0 := by
        rcases Nat.eq_zero_or_pos p.length with h0 | h0
        · exact h0
        · obtain ⟨pb, po, e, _⟩ := hc1 0 h0; cases e
      obtain rfl : p = [] := List.length_eq_zero_iff.1 hz
      obtain rfl : q = [] := List.length_eq_zero_iff.1 (by simpa using h)
      clear hc1 hc2
      go_enter Try.func24, Try.ntmps24
      go_wp2_with (go_at_call 19; refine (equal_is HT.out H2.out HB.out HQ.out).mono ?_; rintro e w' ⟨rfl, rfl⟩)
      go_ret
      exact ⟨rfl, rfl⟩
    | some ad =>
      clear hc1 hc2
      go_enter Try.func24, Try.ntmps24
      go_wp2_with (go_at_call 19; refine (equal_is HT.out H2.out HB.out HQ.out).mono ?_; rintro e w' ⟨rfl, rfl⟩)
      go_ret
      exact ⟨rfl, rfl⟩
  · clear hc1 hc2
    have hd : decide (p.take q.length = q) = false := by
      simp only [decide_eq_false_iff_not]
      intro e
      have := congrArg List.length e
      simp at this; omega
    go_enter Try.func24, Try.ntmps24
    have HD := Lib.hid hd
    clear hd
    go_wp2_with fail
    go_ret
    exact ⟨congrArg (fun x => Ending.returned (.bool x)) HD.out.symm, rfl⟩
end Go.Proofs.Ytogdhmbdackeeaa
