import Derived.Test.YtogdhmbdackeeaaM
import Derived.Deep.LoopGhost
import Derived.Lib.ConvBytes
namespace Go.Proofs.Ytogdhmbdackeeaa
open Go.RowKit
set_option linter.unusedVariables false

/-- A string's bytes. -/
def ints (st : ByteArray) : List Int := st.data.toList.map fun c => (c.toNat : Int)
theorem ints_length (st : ByteArray) : (ints st).length = st.size := by rw [ints, List.length_map, Array.length_toList]; rfl
theorem ints_bytes (st : ByteArray) : Bytes (ints st) := by
  intro x hx
  obtain ⟨c, _, rfl⟩ := List.mem_map.1 hx
  have := c.toNat_lt
  omega
theorem conv_str (w : World) (st : ByteArray) : ∃ W cap, (convert 9 23 (.string st)).run Try.prog w = .ok (.slice (some ⟨w.heap.size, 0, none⟩) st.size cap) W ∧ Below w.heap.size w W ∧ Reads W (.slice (some ⟨w.heap.size, 0, none⟩) st.size cap) (ints st) := by
  refine ⟨_, _, Lib.run_convert_string_bytes (P := Try.prog) w 9 23 5 st Try.underlying9 Try.underlying23 Try.underlying5, ?_, ?_⟩
  · refine ⟨?_, ?_, ?_, by rw [Lib.bytesWorld_size]; omega, fun k hk => Lib.bytesWorld_at_old _ _ _ _ hk⟩
    all_goals (simp [Lib.bytesWorld, World.freeze]; try rfl)
  · refine ⟨_, _, by rw [ints_length], fun j hj => ⟨_, 0, rfl, ?_⟩⟩
    rw [ints_length] at hj
    have := Lib.bytesWorld_cell w 5 st j hj
    rw [Nat.zero_add, this]
    have hj2 : j < st.data.size := hj
    simp [ints, rd, Array.getElem?_eq_getElem hj2]

set_option maxRecDepth 100000 in
theorem filled_ok (w : World) (s a : Int) (st : ByteArray) (h1 : 2 ≤ s) (h2 : s ≤ 256) (h3 : 0 ≤ a) (h5 : a + st.size ≤ 281474976710656) (h6 : (st.size : Int) ≤ s) :
    Calls Try.prog 28 #[.int .i64 s, .int .i64 a, .string st] w fun e w' => e = .returned (.tuple #[at0 w.heap.size, .bool true]) ∧ Buf w' w.heap.size s (ints st) a ∧ Below w.heap.size w w' := by
  go_enter Try.func28, Try.ntmps28
  go_wp2_with (go_at_call 11; refine (bnew s a h1 h2 h3 (by omega) _).mono ?_; rintro e w1 ⟨rfl, hb, hw⟩; obtain ⟨W, cap, hrun, hbW, hrd⟩ := conv_str w1 st; have HB := Lib.hid (hb.next hbW); have HL := Lib.hid hb.lt; have HW := Lib.hid (hw.trans (hbW.mono hw.size)); have HR := Lib.hid hrd; clear hb hw hbW hrd)
  go_loopg [27] st.size (fun gk i wr => ∃ k : Nat, k + gk = st.size ∧ i = .int .i64 k ∧ Buf wr w.heap.size s ((ints st).take k) a ∧ Rg w.heap.size (w.heap.size + 1) W wr)
  case atStart => exact ⟨0, by omega, rfl, HB.out, Rg.refl _ _ _⟩
  case round =>
    obtain ⟨k, hk, rfl, hb, hr⟩ := hrel
    have HR2 := Lib.hid hr
    have HBB := Lib.hid hb
    have HK := Lib.hid hk
    by_cases hlt : k < st.size
    · obtain ⟨sa, c, e, hc⟩ := HR.out
      obtain ⟨pb, po, e2, hcell⟩ := hc k (by rw [ints_length]; exact hlt)
      obtain ⟨rfl, rfl⟩ : w1.heap.size = pb ∧ 0 = po := by
        simp only [Value.slice.injEq] at e
        rw [← e.1] at e2
        simpa using e2
      have hw1 := HL.out
      have hcell2 : wr.cell? ⟨w1.heap.size, k, none⟩ = some (.int .u8 (rd (ints st) k)) := by
        rw [Nat.zero_add] at hcell
        have hblk : w1.heap.size < W.heap.size := World.block_lt_of_cell? _ _ hcell
        exact (World.cell?_of_block (hr.high.block w1.heap.size (by omega) hblk)).trans hcell
      have htl : ((ints st).take k).length = k := by rw [List.length_take, ints_length]; omega
      clear hb hr hk hc hcell e e2
      go_wp2_with (go_at_call 17; refine (bput (c := rd (ints st) k) HBB.out (by rw [htl]; omega) (by rw [htl]; omega)).mono ?_; rintro e w2 ⟨rfl, hb2, hr2⟩; have HB2 := Lib.hid hb2; have HR3 := Lib.hid hr2; clear hb2 hr2)
      have hk := HK.out
      go_roundg (gk - 1)
      case rel =>
        refine ⟨k + 1, by omega, by simp, ?_, HR2.out.trans HR3.out⟩
        have e : (ints st).take (k + 1) = (ints st).take k ++ [rd (ints st) k] := by
          have hk2 : k < (ints st).length := by rw [ints_length]; exact hlt
          rw [List.take_add_one, List.getElem?_eq_getElem hk2]
          simp [rd, hk2]
        rw [e]
        exact HB2.out
      case measure => omega
    · obtain rfl : k = st.size := by omega
      clear hb hr hk
      go_wp2_with fail
      go_ret2
      refine ⟨rfl, ?_, HW.out.trans (HR2.out.low.mono (Nat.le_refl _))⟩
      have := HBB.out
      rwa [List.take_of_length_le (by rw [ints_length]; omega)] at this
end Go.Proofs.Ytogdhmbdackeeaa
