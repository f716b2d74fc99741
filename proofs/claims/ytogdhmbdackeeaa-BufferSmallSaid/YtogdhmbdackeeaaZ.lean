import Derived.Test.YtogdhmbdackeeaaY
namespace Go.Proofs.Ytogdhmbdackeeaa
open Go.RowKit
set_option linter.unusedVariables false

theorem rfind_bad {S B fr : Int} {sa : Option Addr} {n cap G : Nat} {pa : Option Addr} {pn pc : Nat} (hn : n ≤ cap) (hG : G ≤ n) (h : fr < 0 ∨ ((n - G : Nat) : Int) < fr) (w : World) :
    Calls Try.prog 43 #[rv S B (.slice sa n cap) G, .slice pa pn pc, .int .i64 fr] w fun e w' => e = .returned (.int .i64 (-1)) ∧ Below w.heap.size w w' := by
  by_cases h0 : fr < 0
  · clear h
    go_enter Try.func43, Try.ntmps43
    go_wp2_with (go_at_call 36; refine (held_val (S := S) (B := B) hn hG _).mono ?_; rintro e w1 ⟨rfl, hb⟩; unfold hv; have W1 := Lib.hid (bnext (balloc (Below.refl _ w) _) hb); clear hb)
    go_ret
    exact ⟨rfl, W1.out⟩
  · have h1 : ((n - G : Nat) : Int) < fr := by omega
    clear h
    go_enter Try.func43, Try.ntmps43
    go_wp2_with (go_at_call 36; refine (held_val (S := S) (B := B) hn hG _).mono ?_; rintro e w1 ⟨rfl, hb⟩; unfold hv; have W1 := Lib.hid (bnext (balloc (Below.refl _ w) _) hb); clear hb)
    go_ret
    exact ⟨rfl, W1.out⟩

theorem conv_at {w w' : World} {v : Value} {p : List Int} (h : Reads w v p) (hb : Below w.heap.size w w') : (convert 23 9 v).run Try.prog w' = .ok (.string (strOfNums p)) w' := (h.next hb).conv

set_option maxRecDepth 20000 in
set_option maxHeartbeats 2000000 in
theorem rfind_is {S B : Int} {fr : Nat} {sa : Option Addr} {A : List Int} {cap G : Nat} {pa : Option Addr} {p : List Int} {pc : Nat} (hn : A.length ≤ cap) (hG : G ≤ A.length) (hn2 : A.length ≤ 90000) (hp2 : p.length ≤ 1000) (hfr : fr ≤ A.length - G) (w : World)
    (hr : Reads w (.slice sa A.length cap) A) (hrp : Reads w (.slice pa p.length pc) p) (hA : Bytes A) (hP : Bytes p) :
    Calls Try.prog 43 #[rv S B (.slice sa A.length cap) G, .slice pa p.length pc, .int .i64 fr] w fun e w' => ∃ v, e = .returned (.int .i64 v) ∧ FoundL (A.drop G) p fr v ∧ Below w.heap.size w w' := by
  have HR := Lib.hid hr; have HRP := Lib.hid hrp; have HA := Lib.hid hA; have HP := Lib.hid hP
  have h0 : ¬ ((A.length - G : Nat) : Int) < (fr : Int) := by omega
  have RH := Lib.hid (show Reads w (.slice (tailA sa cap G) (A.length - G) (cap - G)) (A.drop G) from hr.tail hn hG)
  obtain ⟨HH, hHH⟩ : ∃ HH, HH = A.drop G := ⟨_, rfl⟩
  have hHl : HH.length = A.length - G := by rw [hHH, List.length_drop]
  have BH := Lib.hid (show Bytes HH by rw [hHH]; exact fun x hx => hA x (List.mem_of_mem_drop hx))
  rw [← hHH] at RH
  rw [← hHH]
  rw [← hHl] at RH h0
  have hcap2 : HH.length ≤ cap - G := by omega
  have hfr2 : fr ≤ HH.length := by omega
  have hHb : HH.length ≤ 90000 := by omega
  have HL := Lib.hid hHl
  clear hr hrp hA hP hHH hHl hfr
  go_enter Try.func43, Try.ntmps43
  go_wp2_with (go_at_call 36; refine (held_val (S := S) (B := B) hn hG _).mono ?_; rintro e w1 ⟨rfl, hb⟩; unfold hv; rw [← HL.out]; have W1 := Lib.hid (bnext (balloc (Below.refl _ w) _) hb); clear hb)
  obtain ⟨ta, hta⟩ : ∃ ta, ta = tailA sa cap G := ⟨_, rfl⟩
  obtain ⟨cap2, hc2⟩ : ∃ cap2, cap2 = cap - G := ⟨_, rfl⟩
  rw [← hta, ← hc2] at RH
  rw [← hc2] at hcap2
  rw [← hta, ← hc2]
  clear hta hc2
  go_loopg [8] (HH.length + 1 - fr) (fun gk i wr => ∃ k : Nat, gk = HH.length + 1 - k ∧ fr ≤ k ∧ k ≤ HH.length + 1 ∧ i = .int .i64 k ∧ (∀ j, fr ≤ j → j < k → j + p.length ≤ HH.length → ¬ Here HH p j) ∧ Below w.heap.size w wr)
  case atStart => exact ⟨fr, rfl, Nat.le_refl _, by omega, rfl, fun j h1 h2 => by omega, W1.out⟩
  case round =>
    obtain ⟨k, hgk, hk1, hk2, rfl, hno, hb⟩ := hrel
    have HGK := Lib.hid hgk; have HNO := Lib.hid hno; have W2 := Lib.hid hb
    clear hgk hno hb
    by_cases hc : (k : Int) ≤ (HH.length : Int) - (p.length : Int)
    · have hkp : k + p.length ≤ HH.length := by omega
      have hsl := fun W => slice_lh W ta HH.length cap2 k (k + p.length) (l := (k : Int)) (h := (k : Int) + (p.length : Int)) rfl (by push_cast; rfl) (by omega) (by omega)
      rw [Nat.add_sub_cancel_left] at hsl
      obtain ⟨X, hX⟩ : ∃ X, X = (HH.drop k).take p.length := ⟨_, rfl⟩
      have BX : Bytes X := by rw [hX]; exact fun x hx => BH.out x (List.mem_of_mem_drop (List.mem_of_mem_take hx))
      have hstr := str_eq BX HP.out
      have hc1 : ∀ n, (convert 23 9 (.slice (tailA ta cap2 k) p.length (cap2 - k))).run Try.prog (wr.drewN n) = .ok (.string (strOfNums X)) (wr.drewN n) := fun n => by
        rw [hX]
        exact conv_at (RH.out.sub (by omega) hkp) (bdrewN W2.out n)
      have hc2 : ∀ n, (convert 23 9 (.slice pa p.length pc)).run Try.prog (wr.drewN n) = .ok (.string (strOfNums p)) (wr.drewN n) := fun n => conv_at HRP.out (bdrewN W2.out n)
      have p5 : IntKind.i64.wrap ((k : Int) + (p.length : Int)) = (k : Int) + (p.length : Int) := IntWalk.i64_in _ (by omega)
      have HXX := Lib.hid hX
      obtain ⟨s1, hs1⟩ : ∃ s1, s1 = strOfNums X := ⟨_, rfl⟩
      obtain ⟨s2, hs2⟩ : ∃ s2, s2 = strOfNums p := ⟨_, rfl⟩
      rw [← hs1] at hc1
      rw [← hs2] at hc2
      rw [← hs1, ← hs2] at hstr
      clear hX BX hs1 hs2
      by_cases hh : X = p
      · have hst : (s1.toList == s2.toList) = true := by rw [hstr]; simpa using hh
        have HHX := Lib.hid hh
        clear hstr hh
        go_upto_region 7 with fail
        go_quiet (fail)
        go_wp2_with fail
        go_ret
        exact ⟨(k : Int), rfl, .inr ⟨k, rfl, hk1, hkp, by unfold Here; rw [← HXX.out]; exact HHX.out, fun j h1 h2 => HNO.out j h1 h2 (by omega)⟩, bdrewN W2.out _⟩
      · have hst : (s1.toList == s2.toList) = false := by rw [hstr]; simpa using hh
        have HHX := Lib.hid hh
        clear hstr hh
        go_upto_region 7 with fail
        go_quiet (fail)
        go_wp2_with fail
        have hgk := HGK.out
        go_roundg (HH.length + 1 - (k + 1))
        case rel =>
          refine ⟨k + 1, rfl, by omega, by omega, by simp, fun j h1 h2 h3 => ?_, bdrewN W2.out _⟩
          rcases Nat.lt_or_ge j k with h | h
          · exact HNO.out j h1 h h3
          · obtain rfl : j = k := by omega
            unfold Here
            rw [← HXX.out]
            exact HHX.out
        case measure => omega
    · go_wp2_with fail
      go_ret
      exact ⟨-1, rfl, .inl ⟨rfl, fun j h1 h2 => by
        by_cases h : j < k
        · exact HNO.out j h1 h h2
        · omega⟩, W2.out⟩
end Go.Proofs.Ytogdhmbdackeeaa
