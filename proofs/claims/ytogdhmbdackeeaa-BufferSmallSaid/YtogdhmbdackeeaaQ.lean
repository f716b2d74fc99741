import Derived.Test.YtogdhmbdackeeaaP
namespace Go.Proofs.Ytogdhmbdackeeaa
open Go.RowKit
set_option linter.unusedVariables false

theorem btake_bad {w : World} {b : Nat} {s a n : Int} {l : List Int} (H : Buf w b s l a) (hn : n < 0 ∨ (l.length : Int) < n) :
    Calls Try.prog 13 #[at0 b, .int .i64 n] w fun e w' => e = .returned (.tuple #[.slice none 0 0, part 0 0, .int .i64 2]) ∧ Below w.heap.size w w' := by
  have HH := Lib.hid (H.alloc (.cells #[.int .i64 0, .int .i64 0] 31))
  have lb := H.lt
  have hc : ∃ f, (w.alloc (.cells #[.int .i64 0, .int .i64 0] 31)).cell? ⟨b, 258, none⟩ = some (.int .i64 f) ∧ f = l.length := by
    obtain ⟨r, f, h0, _⟩ := HH.out
    exact ⟨_, h0.tail.2.2.1, rfl⟩
  obtain ⟨q, c2, hq⟩ := hc
  subst hq
  obtain ⟨d0, d1, f0, f1⟩ := cell_two (nw (w := w) (o := .cells #[.int .i64 0, .int .i64 0] 31))
  clear H
  by_cases h0 : n < 0
  · clear hn
    go_enter Try.func13, Try.ntmps13
    go_wp2_with (go_at_call 29; refine (bnone HH.out).mono ?_; rintro e w' ⟨rfl, rfl⟩)
    exact bodyPost_ret (v := .tuple #[.slice none 0 0, part 0 0, .int .i64 2]) (by simp [results, Try.results13, go_sem]) rfl ⟨rfl, balloc (Below.refl _ _) _⟩
  · have h1 : (l.length : Int) < n := by omega
    clear hn
    go_enter Try.func13, Try.ntmps13
    go_wp2_with (go_at_call 29; refine (bnone HH.out).mono ?_; rintro e w' ⟨rfl, rfl⟩)
    exact bodyPost_ret (v := .tuple #[.slice none 0 0, part 0 0, .int .i64 2]) (by simp [results, Try.results13, go_sem]) rfl ⟨rfl, balloc (Below.refl _ _) _⟩
end Go.Proofs.Ytogdhmbdackeeaa
