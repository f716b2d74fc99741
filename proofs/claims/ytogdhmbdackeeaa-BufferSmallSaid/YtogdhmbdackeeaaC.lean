import Derived.Test.YtogdhmbdackeeaaB
import Derived.Deep.DeepCutAuto
namespace Go.Proofs.Ytogdhmbdackeeaa
open Go.RowKit
set_option linter.unusedVariables false

theorem Rg.setNew {lo hi : Nat} {a w : World} (h : Rg lo hi a w) {b off : Nat} (h1 : lo ≤ b) (h2 : a.heap.size ≤ b) (v : Value) : Rg lo hi a (w.setCell ⟨b, off, none⟩ v) :=
  ⟨bset h.low h1 _, by simpa using h.high.size, fun i h3 h4 => (heap_setCell_ne (by omega)).trans (h.high.block i h3 h4)⟩

set_option maxHeartbeats 4000000 in
theorem drop_is {w : World} {b : Nat} {r : List Int} {s f h a n : Int} (H : BufAt w b r s f h a) (hs : 2 ≤ s) (hs2 : s ≤ 256) (hf : 0 ≤ f) (hf2 : f < s) (hh : 0 ≤ h) (hlt : h ≤ s) (hn : 0 ≤ n) (hnh : n ≤ h) (ha : 0 ≤ a) (ha2 : a ≤ 281474976710656) :
    Calls Try.prog 30 #[at0 b, .int .i64 n] w fun e w' => e = .returned (part a (a + n)) ∧ BufAt w' b r s ((f + n) % s) (h - n) (a + n) ∧ Rg b (b + 1) w w' := by
  obtain ⟨c0, c1, c2, c3⟩ := H.tail
  have HH := Lib.hid H
  have l0 := H.lt
  have ca := fun o off => cell_alloc_lt (o := o) (off := off) l0
  clear H
  go_enter Try.func30, Try.ntmps30
  go_wp2_with fail
  go_region
  go_wp2_with fail
  have H1 := Lib.hid ((HH.out.alloc (.cells #[.int .i64 0, .int .i64 0] 31)).alloc (.cells #[.int .i64 a, .int .i64 (a + n)] 31))
  generalize hw1 : ((w.alloc (Obj.cells #[Value.int IntKind.i64 0, Value.int IntKind.i64 0] 31)).alloc (Obj.cells #[Value.int IntKind.i64 a, Value.int IntKind.i64 (a + n)] 31)) = w1 at *
  have hp1 : w1.heap[w.heap.size + 1]? = some (.cells #[.int .i64 a, .int .i64 (a + n)] 31) := by rw [← hw1]; exact nwk (by simp)
  have hp0 : w1.heap[w.heap.size]? = some (.cells #[.int .i64 0, .int .i64 0] 31) := by rw [← hw1]; exact al nw
  have HB1 := Lib.hid (show Below w.heap.size w w1 by rw [← hw1]; exact balloc (balloc (Below.refl _ _) _) _)
  have HP0 := Lib.hid hp0; have HP1 := Lib.hid hp1
  clear hw1 hp0 hp1 c0 c1 c2 c3 ca
  obtain ⟨c0, c1, c2, c3⟩ := H1.out.tail
  obtain ⟨d0, d1, e0, e1⟩ := cell_two HP1.out
  have g1 := H1.out.free 257
  have g2 := H1.out.free 258
  have g3 := H1.out.free 259
  have hne : ¬ w.heap.size + 1 = b := by omega
  have hne2 : ¬ b = w.heap.size + 1 := by omega
  have hw : IntKind.i64.wrap (h - n) = h - n := IntWalk.i64_in _ (by omega)
  have HW := Lib.hid hw
  go_cut [5] (fun s5 wx => s5 = at0 (w.heap.size + 1) ∧ BufAt wx b r s ((f + n) % s) (h - n) (a + n) ∧ wx.heap[w.heap.size]? = some (.cells #[.int .i64 0, .int .i64 0] 31) ∧ wx.heap[w.heap.size + 1]? = some (.cells #[.int .i64 a, .int .i64 (a + n)] 31) ∧ Rg b (b + 1) w wx)
  case first =>
    go_region_with ((go_at_call 32; refine (place_is (by exact H1.out) hs hs2 hf hf2 hn (by omega)).mono ?_; rintro e w' ⟨rfl, rfl⟩))
    all_goals
      go_wp2_with fail
      go_meet
      refine ⟨rfl, ?_, ?_, ?_, ?_⟩
      · exact ((H1.out.set_first _).set_held _).set_at _
      · exact (heap_setCell_ne (by omega)).trans ((heap_setCell_ne (by omega)).trans ((heap_setCell_ne (by omega)).trans HP0.out))
      · exact (heap_setCell_ne (by omega)).trans ((heap_setCell_ne (by omega)).trans ((heap_setCell_ne (by omega)).trans HP1.out))
      · exact ((((((Rg.refl _ _ _).next HB1.out (by omega)).set (Nat.le_refl _) (by omega) _).set (Nat.le_refl _) (by omega) _).set (Nat.le_refl _) (by omega) _).drew).drew.drew
  case rest =>
    obtain ⟨rfl, hb, hp0, hp1, hr⟩ := hcut
    have X1 := Lib.hid hb; have X2 := Lib.hid hr
    obtain ⟨d0, d1, e0, e1⟩ := cell_two hp1
    obtain ⟨d2, d3, e2, e3⟩ := cell_two hp0
    have X3 := Lib.hid hp0
    clear hb hr hp0 hp1 c0 c1 c2 c3 g1 g2 g3 H1 HB1 HP0 HP1 hne hne2 HW
    go_wp2_with fail
    have hE : ((wc.setCell ⟨w.heap.size, 0, none⟩ (.int .i64 a)).setCell ⟨w.heap.size, 1, none⟩ (.int .i64 (a + n))).heap[w.heap.size]? = some (.cells #[.int .i64 a, .int .i64 (a + n)] 31) := by
      rw [heap_setCell_at (heap_setCell_at X3.out)]; rfl
    obtain ⟨d4, d5, _, _⟩ := cell_two hE
    refine bodyPost_ret (v := part a (a + n)) (by simp [results, Try.results30, go_sem, d4, d5]) rfl ⟨rfl, ?_, ?_⟩
    · exact ⟨X1.out.1, (heap_setCell_ne (by omega)).trans ((heap_setCell_ne (by omega)).trans X1.out.2)⟩
    · exact (X2.out.setNew (by omega) (Nat.le_refl _) _).setNew (by omega) (Nat.le_refl _) _

end Go.Proofs.Ytogdhmbdackeeaa
