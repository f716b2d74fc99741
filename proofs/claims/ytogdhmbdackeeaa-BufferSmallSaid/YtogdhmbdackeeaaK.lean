import Derived.Test.YtogdhmbdackeeaaJ
import Derived.Laws.Tables
import Derived.Laws.Rows
namespace Go.Proofs.Ytogdhmbdackeeaa
open Go.RowKit
set_option linter.unusedVariables false

def zc : Array Value := bufCells (List.replicate 256 0) 0 0 0 0
theorem zc_size : zc.size = 260 := by unfold zc; rw [show (bufCells (List.replicate 256 0) 0 0 0 0).size = 260 from by rw [bufCells]; simp only [List.size_toArray, List.length_append, List.length_map, List.length_replicate, List.length_cons, List.length_nil]]
theorem run_alloc_buf (w : World) : (Instr.alloc 61 true (.tuple #[])).run Try.prog w = .ok (at0 w.heap.size) (w.alloc (.cells zc 61)) := by kernel_rfl
theorem wpList_alloc_buf {ops : Array Oper} {Q : Exit → Act → World → Prop} {A : Act} {w : World} {rest : List Oper} {o : Oper} (hg : o.guard = none) (ho : o.op = .alloc 61)
    (h : wpList Try.prog ops Q rest (A.put o.dst (at0 w.heap.size)) (w.alloc (.cells zc 61))) : wpList Try.prog ops Q (o :: rest) A w := by
  refine wpList_plain hg fun K hK => ?_
  unfold Oper.wp execOp
  simp only [ho, Sem.run_bind, run_alloc_buf, Result.andThen_ok]
  exact hK _ _ h
theorem bufCells_size {r : List Int} {s f h a : Int} (hr : r.length = 256) : (bufCells r s f h a).size = 260 := by simp [bufCells, hr]
theorem bufCells_one {r : List Int} {s f h a : Int} : (bufCells r s f h a).all (·.oneCell') = true := by
  refine Array.all_eq_true_iff_forall_mem.2 fun v hv => ?_
  simp only [bufCells, List.mem_toArray, List.mem_append, List.mem_map, List.mem_cons, List.not_mem_nil, or_false] at hv
  rcases hv with ⟨x, _, rfl⟩ | rfl | rfl | rfl | rfl <;> rfl
theorem info61 : (Try.prog.info? 61).map (·.size) = some 260 := by kernel_rfl

set_option maxHeartbeats 1000000 in
theorem bcopy {w : World} {b : Nat} {s a : Int} {l : List Int} (H : Buf w b s l a) :
    Calls Try.prog 26 #[at0 b] w fun e w' => e = .returned (at0 w.heap.size) ∧ Buf w' w.heap.size s l a ∧ Below w.heap.size w w' := by
  obtain ⟨r, f, hB, hrest⟩ := H
  have HH := Lib.hid (show Buf w b s l a from ⟨r, f, hB, hrest⟩)
  have HB := Lib.hid hB
  have HR := Lib.hid hrest
  clear hB hrest
  go_enter Try.func26, Try.ntmps26
  go_upto_region 3 with (go_at_call 29; refine (bnone HH.out).mono ?_; rintro e w' ⟨rfl, rfl⟩)
  apply wp_region_lit
  refine wpList_plain rfl fun K hK => ?_
  go_simp
  apply hK
  refine wpList_plain rfl fun K2 hK2 => ?_
  go_simp
  apply hK2
  clear hK hK2
  refine wpList_load_row (by rfl) 61 (.tmp 7) (by rfl) b (by rfl) 61 (bufCells r s f l.length a) (0, 0) _ HB.out.2 Try.underlying61 rfl (by rw [bufCells_size HB.out.1]; exact info61) ?_
  refine wpList_alloc_buf (by rfl) (by rfl) ?_
  refine wpList_store_row (by rfl) 61 (.tmp 3) (.tmp 8) (by rfl) w.heap.size (bufCells r s f l.length a) (by rfl) (by rfl) 61 zc nw (by rw [bufCells_size HB.out.1]; exact info61) (by rw [bufCells_size HB.out.1, zc_size]) bufCells_one ?_
  go_wp2_with fail
  go_ret
  refine ⟨rfl, ⟨r, f, ⟨HB.out.1, setRow_heap _ _ _ _ _ _ nw⟩, HR.out⟩, ?_⟩
  exact ⟨rfl, rfl, rfl, by simp, fun k hk => (setRow_other _ _ _ _ (by omega)).trans (heap_alloc_lt hk)⟩
end Go.Proofs.Ytogdhmbdackeeaa
