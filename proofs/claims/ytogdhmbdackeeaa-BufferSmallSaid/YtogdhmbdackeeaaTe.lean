import Derived.Test.YtogdhmbdackeeaaTd
namespace Go.Proofs.Ytogdhmbdackeeaa
open Go.RowKit
set_option linter.unusedVariables false

theorem do_true {w : World} {b K G : Nat} {B kind c N : Int} {v bs : Value} {A p : List Int} (s : DS w b K B v A G) (hA : A.length ≤ 80000) (hk0 : 0 ≤ kind) (hk1 : kind ≤ 255) (hc0 : 0 ≤ c) (hc1 : c ≤ 255)
    (hbs : Reads w bs p) (hbl2 : ∀ n c, bs = .slice none n c → bs = .slice none 0 0 ∧ p = []) (hp : p.length ≤ 1000) (hP : Bytes p) :
    Calls Try.prog 35 #[at0 b, rv K B v G, actv kind c N bs] w (DoRes b K B A.length w) := by
  have hsz := s.buf.size_le
  have hdl : (A.drop G).length = A.length - G := List.length_drop
  rw [hdl] at hsz
  have hG := s.hG
  have hput : ∀ r, kind % 8 = r → r = 0 ∨ r = 1 ∨ r = 2 ∨ r = 3 → Calls Try.prog 35 #[at0 b, rv K B v G, actv kind c N bs] w (DoRes b K B A.length w) := fun r hr h => by
    by_cases hf : A.length - G = K
    · rcases h with rfl | rfl | rfl | rfl
      · exact do_put0_full s hA hk0 hk1 hc0 hc1 hf hr
      · exact do_put1_full s hA hk0 hk1 hc0 hc1 hf hr
      · exact do_put2_full s hA hk0 hk1 hc0 hc1 hf hr
      · exact do_put3_full s hA hk0 hk1 hc0 hc1 hf hr
    · by_cases hl : B + (A.length : Int) = 281474976710656
      · rcases h with rfl | rfl | rfl | rfl
        · exact do_put0_long s hA hk0 hk1 hc0 hc1 hf hl hr
        · exact do_put1_long s hA hk0 hk1 hc0 hc1 hf hl hr
        · exact do_put2_long s hA hk0 hk1 hc0 hc1 hf hl hr
        · exact do_put3_long s hA hk0 hk1 hc0 hc1 hf hl hr
      · have hl' : B + (A.length : Int) < 281474976710656 := by omega
        rcases h with rfl | rfl | rfl | rfl
        · exact do_put0_ok s hA hk0 hk1 hc0 hc1 hf hl' hr
        · exact do_put1_ok s hA hk0 hk1 hc0 hc1 hf hl' hr
        · exact do_put2_ok s hA hk0 hk1 hc0 hc1 hf hl' hr
        · exact do_put3_ok s hA hk0 hk1 hc0 hc1 hf hl' hr
  have hN : (N < 0 ∨ ((A.length - G : Nat) : Int) < N) ∨ ∃ m : Nat, N = (m : Int) ∧ m ≤ A.length - G := by
    by_cases h : N < 0 ∨ ((A.length - G : Nat) : Int) < N
    · exact .inl h
    · exact .inr ⟨N.toNat, by omega, by omega⟩
  have hr0 : 0 ≤ kind % 8 := by omega
  have hr1 : kind % 8 < 8 := by omega
  by_cases h3 : kind % 8 ≤ 3
  · exact hput _ rfl (by omega)
  · by_cases h4 : kind % 8 = 4
    · rcases hN with hN | ⟨m, hN, hm⟩
      · exact do_take_bad s hA hk0 hk1 hN h4
      · exact do_take_ok s hA hk0 hk1 hN hm h4
    · by_cases h5 : kind % 8 = 5
      · by_cases hf : A.length - G = K
        · exact do_disc_ok s hA hk0 hk1 rfl hf h5
        · exact do_disc_room s hA hk0 hk1 hf h5
      · by_cases h6 : kind % 8 = 6
        · rcases hN with hN | ⟨m, hN, hm⟩
          · exact do_find_bad s hA hk0 hk1 hN hbs hbl2 hp hP h6
          · exact do_find_ok s hA hk0 hk1 hN hm hbs hbl2 hp hP h6
        · exact do_copy s hA hk0 hk1 (by omega)
end Go.Proofs.Ytogdhmbdackeeaa
