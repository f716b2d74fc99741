import Derived.Test.YtogdhmbdackeeaaW
import Derived.BigQuiet
namespace Go.Proofs.Ytogdhmbdackeeaa
open Go.RowKit
set_option linter.unusedVariables false

/-! ## The reference's buffer -/
abbrev rv (S B : Int) (v : Value) (G : Int) : Value := .agg #[.int .i64 S, .int .i64 B, v, .int .i64 G]
theorem cell_4 {w : World} {b : Nat} {p q r s : Value} {t : TypeId} (h : w.heap[b]? = some (.cells #[p, q, r, s] t (0, 0))) :
    w.cell? ⟨b, 0, none⟩ = some p ∧ w.cell? ⟨b, 1, none⟩ = some q ∧ w.cell? ⟨b, 2, none⟩ = some r ∧ w.cell? ⟨b, 3, none⟩ = some s := by simp [World.cell?, h]
theorem free_4 {w : World} {b : Nat} {p q r s : Value} {t : TypeId} (h : w.heap[b]? = some (.cells #[p, q, r, s] t (0, 0))) :
    w.frozen? ⟨b, 0, none⟩ = false ∧ w.frozen? ⟨b, 1, none⟩ = false ∧ w.frozen? ⟨b, 2, none⟩ = false ∧ w.frozen? ⟨b, 3, none⟩ = false := by simp [World.frozen?, h]

theorem good_yes (s a : Int) (h1 : 2 ≤ s) (h2 : s ≤ 256) (h3 : 0 ≤ a) (h4 : a ≤ 281474976710656) (w : World) : Calls Try.prog 33 #[.int .i64 s, .int .i64 a] w fun e w' => e = .returned (.bool true) ∧ w = w' := by
  go_enter Try.func33, Try.ntmps33
  go_wp2_with fail
  go_ret
  exact ⟨rfl, rfl⟩
theorem good_no (s a : Int) (h : s < 2 ∨ 256 < s ∨ a < 0 ∨ 281474976710656 < a) (w : World) : Calls Try.prog 33 #[.int .i64 s, .int .i64 a] w fun e w' => e = .returned (.bool false) ∧ w = w' := by
  by_cases h1 : s < 2
  · have h1' : ¬ 2 ≤ s := by omega
    go_enter Try.func33, Try.ntmps33
    go_wp2_with fail
    go_ret
    exact ⟨rfl, rfl⟩
  · by_cases h2 : 256 < s
    · have h1' : 2 ≤ s := by omega
      have h2' : ¬ s ≤ 256 := by omega
      go_enter Try.func33, Try.ntmps33
      go_wp2_with fail
      go_ret
      exact ⟨rfl, rfl⟩
    · by_cases h3 : a < 0
      · have h1' : 2 ≤ s := by omega
        have h2' : s ≤ 256 := by omega
        have h3' : ¬ 0 ≤ a := by omega
        go_enter Try.func33, Try.ntmps33
        go_wp2_with fail
        go_ret
        exact ⟨rfl, rfl⟩
      · have h1' : 2 ≤ s := by omega
        have h2' : s ≤ 256 := by omega
        have h3' : 0 ≤ a := by omega
        have h4' : ¬ a ≤ 281474976710656 := by omega
        clear h
        go_enter Try.func33, Try.ntmps33
        go_wp2_with fail
        go_ret
        exact ⟨rfl, rfl⟩

/-- Held's value. -/
def hv (sa : Option Addr) (n cap G : Nat) : Value := .slice (tailA sa cap G) (n - G) (cap - G)
theorem held_val {S B : Int} {sa : Option Addr} {n cap G : Nat} (hn : n ≤ cap) (hG : G ≤ n) (w : World) :
    Calls Try.prog 36 #[rv S B (.slice sa n cap) G] w fun e w' => e = .returned (hv sa n cap G) ∧ Below w.heap.size w w' := by
  have hsl := fun W => slice_l W sa n cap G (l := (G : Int)) rfl hG hn
  go_enter Try.func36, Try.ntmps36
  go_wp2_with fail
  go_ret
  exact ⟨rfl, balloc (Below.refl _ _) _⟩
theorem from_val {S B : Int} {v : Value} {G : Nat} (hB : 0 ≤ B) (hB2 : B ≤ 281474976710656) (hG : G ≤ 100000) (w : World) :
    Calls Try.prog 39 #[rv S B v G] w fun e w' => e = .returned (.int .i64 (B + G)) ∧ Below w.heap.size w w' := by
  go_enter Try.func39, Try.ntmps39
  go_wp2_with fail
  go_ret
  exact ⟨rfl, balloc (Below.refl _ _) _⟩
theorem full_val {S B : Int} {sa : Option Addr} {n cap G : Nat} (hn : n ≤ cap) (hG : G ≤ n) (w : World) :
    Calls Try.prog 38 #[rv S B (.slice sa n cap) G] w fun e w' => e = .returned (.bool (((n - G : Nat) : Int) == S)) ∧ Below w.heap.size w w' := by
  have hx := Lib.hid (nw (w := w) (o := .cells #[.int .i64 S, .int .i64 B, .slice sa n cap, .int .i64 (G : Int)] 72))
  have W1 := Lib.hid (show Below w.heap.size w (w.alloc (.cells #[.int .i64 S, .int .i64 B, .slice sa n cap, .int .i64 (G : Int)] 72)).drew from (balloc (Below.refl _ _) _).drew)
  go_enter Try.func38, Try.ntmps38
  go_wp2_with fail
  obtain ⟨c0, c1, c2, c3⟩ := cell_4 (show (w.alloc (.cells #[.int .i64 S, .int .i64 B, .slice sa n cap, .int .i64 (G : Int)] 72)).drew.heap[w.heap.size]? = some (.cells #[.int .i64 S, .int .i64 B, .slice sa n cap, .int .i64 (G : Int)] 72) from hx.out)
  go_region_held3 (fun w' => w'.cell? ⟨w.heap.size, 0, none⟩ = some (.int .i64 S) ∧ w'.cell? ⟨w.heap.size, 1, none⟩ = some (.int .i64 B) ∧ w'.cell? ⟨w.heap.size, 2, none⟩ = some (.slice sa n cap) ∧ w'.cell? ⟨w.heap.size, 3, none⟩ = some (.int .i64 G))
    (first | exact ⟨c0, c1, c2, c3⟩ | exact ⟨d0, d1, d2, d3⟩)
    (first | (go_at_call 36; refine (held_val (S := S) (B := B) hn hG _).mono ?_; rintro e w1 ⟨rfl, hb⟩; unfold hv; have W2 := Lib.hid (bnext W1.out hb); (obtain ⟨d0, d1, d2, d3⟩ := cell_4 (carry hb (show (w.alloc (.cells #[.int .i64 S, .int .i64 B, .slice sa n cap, .int .i64 (G : Int)] 72)).drew.heap[w.heap.size]? = some (.cells #[.int .i64 S, .int .i64 B, .slice sa n cap, .int .i64 (G : Int)] 72) from hx.out))); clear hb))
  go_wp2_with fail
  go_ret
  exact ⟨rfl, W2.out⟩
theorem ref_full {S B : Int} {sa : Option Addr} {n cap G : Nat} (hn : n ≤ cap) (hG : G ≤ n) (h : ((n - G : Nat) : Int) = S) (w : World) :
    Calls Try.prog 38 #[rv S B (.slice sa n cap) G] w fun e w' => e = .returned (.bool true) ∧ Below w.heap.size w w' := by
  have := full_val (S := S) (B := B) (sa := sa) hn hG w
  rwa [show (((n - G : Nat) : Int) == S) = true by simpa using h] at this
theorem ref_notfull {S B : Int} {sa : Option Addr} {n cap G : Nat} (hn : n ≤ cap) (hG : G ≤ n) (h : ((n - G : Nat) : Int) ≠ S) (w : World) :
    Calls Try.prog 38 #[rv S B (.slice sa n cap) G] w fun e w' => e = .returned (.bool false) ∧ Below w.heap.size w w' := by
  have := full_val (S := S) (B := B) (sa := sa) hn hG w
  rwa [show (((n - G : Nat) : Int) == S) = false by simpa using h] at this
end Go.Proofs.Ytogdhmbdackeeaa
