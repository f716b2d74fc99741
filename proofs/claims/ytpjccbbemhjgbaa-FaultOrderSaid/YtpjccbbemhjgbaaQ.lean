import Derived.Test.YtpjccbbemhjgbaaO
namespace Go.Proofs.Ytpjccbbemhjgbaa
open Go.RowKit

def isW (k m l n : Int) : Prop := l < k ∨ (l = k ∧ m < n)
instance instIsW (k m l n : Int) : Decidable (isW k m l n) := by unfold isW; infer_instance
def wk (k m l n : Int) : Int := if isW k m l n then l else k
def wm (k m l n : Int) : Int := if isW k m l n then n else m
theorem worse_fn (k m l n : Int) : WorseIs k m l n (wk k m l n) (wm k m l n) := by
  intro w
  unfold wk wm
  by_cases h : isW k m l n
  · rw [if_pos h, if_pos h]; exact worse_b k m l n h w
  · rw [if_neg h, if_neg h]; exact worse_a k m l n (by unfold isW at h; omega) w
theorem worse_eq {k m l n x y : Int} (h : (isW k m l n ∧ x = l ∧ y = n) ∨ (¬ isW k m l n ∧ x = k ∧ y = m)) : WorseIs k m l n x y := by
  rcases h with ⟨h, rfl, rfl⟩ | ⟨h, rfl, rfl⟩
  · exact fun w => worse_b k m _ _ h w
  · exact fun w => worse_a _ _ l n (by unfold isW at h; omega) w

/-- Worse of three: which two are put together first makes no difference. -/
theorem worse_assoc {a0 b0 a1 b1 a2 b2 x0 x1 : Int} (hx : (isW a0 b0 a1 b1 ∧ x0 = a1 ∧ x1 = b1) ∨ (¬ isW a0 b0 a1 b1 ∧ x0 = a0 ∧ x1 = b0)) :
    ∃ yk ym pk pm, WorseIs a1 b1 a2 b2 yk ym ∧ WorseIs x0 x1 a2 b2 pk pm ∧ WorseIs a0 b0 yk ym pk pm := by
  by_cases hy : isW a1 b1 a2 b2
  · by_cases hp : isW x0 x1 a2 b2
    · refine ⟨a2, b2, a2, b2, worse_eq (.inl ⟨hy, rfl, rfl⟩), worse_eq (.inl ⟨hp, rfl, rfl⟩), worse_eq ?_⟩
      unfold isW at *; omega
    · refine ⟨a2, b2, x0, x1, worse_eq (.inl ⟨hy, rfl, rfl⟩), worse_eq (.inr ⟨hp, rfl, rfl⟩), worse_eq ?_⟩
      unfold isW at *; omega
  · by_cases hp : isW x0 x1 a2 b2
    · refine ⟨a1, b1, a2, b2, worse_eq (.inr ⟨hy, rfl, rfl⟩), worse_eq (.inl ⟨hp, rfl, rfl⟩), worse_eq ?_⟩
      unfold isW at *; omega
    · refine ⟨a1, b1, x0, x1, worse_eq (.inr ⟨hy, rfl, rfl⟩), worse_eq (.inr ⟨hp, rfl, rfl⟩), worse_eq ?_⟩
      unfold isW at *; omega

theorem order_any (a0 b0 a1 b1 a2 b2 : Int) (w : World) :
    Calls Try.prog 8 #[flt a0 b0, flt a1 b1, flt a2 b2] w fun e w' => e = .returned (.bool true) ∧ Below w.heap.size w w' := by
  have haa : WorseIs a0 b0 a0 b0 a0 b0 := worse_eq (by unfold isW; omega)
  by_cases h : a0 = a1
  · subst h
    by_cases hb : b1 ≤ b0
    · obtain ⟨yk, ym, pk, pm, h1, h2, h3⟩ := worse_assoc (a0 := a0) (b0 := b0) (a1 := a0) (b1 := b1) (a2 := a2) (b2 := b2) (x0 := a0) (x1 := b0) (by unfold isW; omega)
      exact order_2 a0 b0 b1 a2 b2 yk ym pk pm (worse_eq (by unfold isW; omega)) h1 (worse_eq (by unfold isW; omega)) h2 h3 haa hb w
    · obtain ⟨yk, ym, pk, pm, h1, h2, h3⟩ := worse_assoc (a0 := a0) (b0 := b0) (a1 := a0) (b1 := b1) (a2 := a2) (b2 := b2) (x0 := a0) (x1 := b1) (by unfold isW; omega)
      exact order_4 a0 b0 b1 a2 b2 yk ym pk pm (worse_eq (by unfold isW; omega)) h1 (worse_eq (by unfold isW; omega)) h2 h3 haa (by omega) w
  · by_cases hl : a0 < a1
    · obtain ⟨yk, ym, pk, pm, h1, h2, h3⟩ := worse_assoc (a0 := a0) (b0 := b0) (a1 := a1) (b1 := b1) (a2 := a2) (b2 := b2) (x0 := a0) (x1 := b0) (by unfold isW; omega)
      exact order_1 a0 b0 a1 b1 a2 b2 yk ym pk pm (worse_eq (by unfold isW; omega)) h1 (worse_eq (by unfold isW; omega)) h2 h3 haa hl w
    · obtain ⟨yk, ym, pk, pm, h1, h2, h3⟩ := worse_assoc (a0 := a0) (b0 := b0) (a1 := a1) (b1 := b1) (a2 := a2) (b2 := b2) (x0 := a1) (x1 := b1) (by unfold isW; omega)
      exact order_3 a0 b0 a1 b1 a2 b2 yk ym pk pm (worse_eq (by unfold isW; omega)) h1 (worse_eq (by unfold isW; omega)) h2 h3 haa (by omega) w
end Go.Proofs.Ytpjccbbemhjgbaa
