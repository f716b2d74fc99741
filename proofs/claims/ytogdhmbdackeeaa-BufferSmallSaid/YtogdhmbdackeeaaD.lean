import Derived.Test.YtogdhmbdackeeaaC
namespace Go.Proofs.Ytogdhmbdackeeaa
open Go.RowKit
set_option linter.unusedVariables false

theorem discard_room {w : World} {b : Nat} {r : List Int} {s f h a : Int} (H : BufAt w b r s f h a) (hs : 2 ≤ s) (hh : h ≠ s) :
    Calls Try.prog 16 #[at0 b] w fun e w' => e = .returned (.tuple #[part 0 0, .int .i64 310]) ∧ Below w.heap.size w w' := by
  have HH := Lib.hid (H.alloc (.cells #[.int .i64 0, .int .i64 0] 31))
  have hn : (h == s) = false := by simpa using hh
  clear H hh
  go_enter Try.func16, Try.ntmps16
  go_wp2_with (first | (go_at_call 29; refine (none_no HH.out hs).mono ?_; rintro e w' ⟨rfl, rfl⟩) | (go_at_call 14; refine (full_is HH.out hs).mono ?_; rintro e w1 ⟨rfl, hb⟩; have HB := Lib.hid (bnext (balloc (Below.refl _ w) _) hb); (have HN := Lib.hid (carry hb nw)); (obtain ⟨c0, c1, f0, f1⟩ := cell_two HN.out); clear hb))
  have hE : ((w1.setCell ⟨w.heap.size, 0, none⟩ (.int .i64 0)).setCell ⟨w.heap.size, 1, none⟩ (.int .i64 0)).heap[w.heap.size]? = some (.cells #[.int .i64 0, .int .i64 0] 31) := by
    rw [heap_setCell_at (heap_setCell_at HN.out)]; rfl
  obtain ⟨d4, d5, _, _⟩ := cell_two hE
  exact bodyPost_ret (v := .tuple #[part 0 0, .int .i64 310]) (by simp [results, Try.results16, go_sem, d4, d5]) rfl ⟨rfl, bset (bset HB.out (Nat.le_refl _) _) (Nat.le_refl _) _⟩

theorem discard_ok {w : World} {b : Nat} {r : List Int} {s f a : Int} (H : BufAt w b r s f s a) (hs : 2 ≤ s) (hs2 : s ≤ 256) (hf : 0 ≤ f) (hf2 : f < s) (ha : 0 ≤ a) (ha2 : a ≤ 281474976710656) :
    Calls Try.prog 16 #[at0 b] w fun e w' => e = .returned (.tuple #[part a (a + (s + 1) / 2), .int .i64 0]) ∧ BufAt w' b r s ((f + (s + 1) / 2) % s) (s - (s + 1) / 2) (a + (s + 1) / 2) ∧ Rg b (b + 1) w w' := by
  have HH := Lib.hid (H.alloc (.cells #[.int .i64 0, .int .i64 0] 31))
  have lb := H.lt
  have hn : (s == s) = true := by simp
  have q0 : 0 ≤ (s + 1) / 2 := by omega
  have q1 : (s + 1) / 2 ≤ s := by omega
  clear H
  go_enter Try.func16, Try.ntmps16
  go_wp2_with (first | (go_at_call 29; refine (none_no HH.out hs).mono ?_; rintro e w' ⟨rfl, rfl⟩) | (go_at_call 14; refine (full_is HH.out hs).mono ?_; rintro e w1 ⟨rfl, hb⟩; have HB := Lib.hid (bnext (balloc (Below.refl _ w) _) hb); (have HN := Lib.hid (carry hb nw)); (have H1 := Lib.hid (HH.out.next hb)); (obtain ⟨c0, c1, c2, c3⟩ := H1.out.tail); clear hb))
  refine (drop_is H1.out hs hs2 hf hf2 (by omega) (Int.le_refl _) q0 q1 ha ha2).mono ?_
  rintro e w2 ⟨rfl, hb2, hr2⟩
  have hn2 := hr2.keep (.inr (by omega)) HN.out
  have X1 := Lib.hid hb2; have X2 := Lib.hid ((Rg.below HB.out (by omega)).trans hr2)
  have X3 := Lib.hid hn2
  obtain ⟨d0, d1, f0, f1⟩ := cell_two hn2
  clear hb2 hr2 hn2 c0 c1 c2 c3 HH HB HN H1
  dsimp only
  go_wp2_with fail
  have hE : ((w2.setCell ⟨w.heap.size, 0, none⟩ (.int .i64 a)).setCell ⟨w.heap.size, 1, none⟩ (.int .i64 (a + (s + 1) / 2))).heap[w.heap.size]? = some (.cells #[.int .i64 a, .int .i64 (a + (s + 1) / 2)] 31) := by
    rw [heap_setCell_at (heap_setCell_at X3.out)]; rfl
  obtain ⟨d4, d5, _, _⟩ := cell_two hE
  refine bodyPost_ret (v := .tuple #[part a (a + (s + 1) / 2), .int .i64 0]) (by simp [results, Try.results16, go_sem, d4, d5]) rfl ⟨rfl, ?_, ?_⟩
  · exact ⟨X1.out.1, (heap_setCell_ne (by omega)).trans ((heap_setCell_ne (by omega)).trans X1.out.2)⟩
  · exact (X2.out.setNew (by omega) (Nat.le_refl _) _).setNew (by omega) (Nat.le_refl _) _
end Go.Proofs.Ytogdhmbdackeeaa
