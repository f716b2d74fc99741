import Derived.Test.YtogdhmbdackeeaaE
import Derived.Shelf.Abstract
import Derived.Stop.RegionWithIn
import Derived.Shelf.RegionOpen
import Derived.WalkKit
import Derived.OwnWalkIn
import Derived.TacticsInMore
import Derived.LoopNIn
import Derived.LoopIn
namespace Go.Proofs.Ytogdhmbdackeeaa
open Go.RowKit Go.Shelf
set_option linter.unusedVariables false
attribute [local go_sem] Oper.semAt_some

/-- The iterator's value: 'from' and b are boxed. -/
abbrev itv (Bf Bb : Nat) : Value := .func (.func 37) #[] #[at0 Bf, at0 Bb]

theorem all_is (w : World) (b : Nat) (i : Int) :
    Calls Try.prog 31 #[at0 b, .int .i64 i] w fun e w' => e = .returned (itv (w.heap.size + 1) w.heap.size) ∧ w' = (w.alloc (.cells #[at0 b] 25)).alloc (.cells #[.int .i64 i] 3) := by
  go_enter Try.func31, Try.ntmps31
  go_wp2_with fail
  go_ret
  exact ⟨rfl, rfl⟩

/-- What the k-th round is handed. -/
def bencs (r : List Int) (s f i : Int) (k : Nat) : Array Value := #[.int .i64 (i + k), .int .u8 (rd r ((f + (i + k)) % s).toNat)]

/-- The wide fence, its functions kept opaque (the walk unfolds no fence). -/
abbrev FG (G : FuncId → Prop) : Fence := { fn := G, depth := none, alive := false }
theorem cin {G : FuncId → Prop} {n : Nat} {P : Program} {f : FuncId} {args : Array Value} {w : World} {R : Ending → World → Prop} (hG : G = fun _ => True) (h : Calls P f args w R) : CallsIn (FG G) n P f args w R := by
  subst hG; exact callsIn_wide.2 h
theorem fnw {G : FuncId → Prop} (hG : G = fun _ => True) (k : Nat) : G k := by subst hG; trivial

theorem one {A B : World → Prop} {e : Ending} {W' : World} (h : (e = .returned (.bool true) ∧ A W') ∨ (e = .returned (.bool false) ∧ B W')) :
    ∃ g : Bool, e = .returned (.bool g) ∧ Hid ((g = true ∧ A W') ∨ (g = false ∧ B W')) := by
  rcases h with ⟨rfl, x⟩ | ⟨rfl, x⟩
  · exact ⟨true, rfl, Lib.hid (.inl ⟨rfl, x⟩)⟩
  · exact ⟨false, rfl, Lib.hid (.inr ⟨rfl, x⟩)⟩

set_option maxRecDepth 100000 in
set_option maxHeartbeats 2000000 in
theorem iter_in (G : FuncId → Prop) (hG : G = fun _ => True) (n : Nat) (hn : 3 ≤ n) (l b Bf Bb : Nat) (r : List Int) (s f h a i : Int) (hs : 2 ≤ s) (hs2 : s ≤ 256) (hf : 0 ≤ f) (hf2 : f < s) (hh : h ≤ s) (hi : 0 ≤ i) (hi2 : i ≤ h) (J Jx : Nat → World → Prop)
    (W : World) (H : BufAt W b r s f h a) (hBf : W.heap[Bf]? = some (.cells #[.int .i64 i] 3)) (hBb : W.heap[Bb]? = some (.cells #[at0 b] 25)) (hJ : AbidesFrom W.heap.size J)
    (hY : ∀ k W1, J k W1 → k < (h - i).toNat → YieldAt (FG G) (n - 1) Try.prog l (bencs r s f i k) W1 fun e W' =>
      (e = .returned (.bool true) ∧ J (k + 1) W' ∧ Same [b, Bf, Bb] W1 W') ∨ (e = .returned (.bool false) ∧ Jx k W'))
    (h0 : J 0 W) :
    CallsIn (FG G) n Try.prog 37 #[.func (.yield l) #[] #[], at0 Bf, at0 Bb] W fun e W' => (∃ v, e = .returned v) ∧
      (J (h - i).toNat W' ∨ (∃ k, k < (h - i).toNat ∧ Jx k W')) := by
  have h37 := fnw hG 37
  have h32 := fnw hG 32
  have HF := Lib.hid hG
  clear hG
  have hn1 : 1 ≤ n := by omega
  have hn2 : 1 ≤ n - 1 := by omega
  refine callsIn_of_wp Try.func37 rfl h37 ?_ rfl
  simp only [Try.ntmps37, List.size_toArray, List.length_cons, List.length_nil, Nat.reduceAdd, Nat.reduceSub, Array.replicate_succ, Array.replicate_zero, List.push_toArray, List.append_toArray, List.nil_append, List.cons_append]
  obtain ⟨cf, ff⟩ := cell_one hBf
  gi_wp2
  gi_loopw [4] (fun p wr => ∃ k : Nat, k ≤ (h - i).toNat ∧ p = .int .i64 (i + k) ∧ J k wr ∧ Same [b, Bf, Bb] W wr)
    (fun p _ => (h - intOf p).toNat)
  case atStart => exact ⟨0, Nat.zero_le _, by simp, h0, Same.refl⟩
  case round =>
    obtain ⟨k, hk, rfl, hJs, hnx⟩ := hrel
    have H1 : BufAt wr b r s f h a := ⟨H.1, (hnx b (by simp)).trans H.2⟩
    obtain ⟨c0, c1, c2, c3⟩ := H1.tail
    obtain ⟨cb, fb⟩ := cell_one ((hnx Bb (by simp)).trans hBb)
    by_cases hlt : k < (h - i).toNat
    · have q0 : i + k < h := by omega
      have u0 : 0 ≤ (f + (i + k)) % s := Int.emod_nonneg _ (by omega)
      have u1 : (f + (i + k)) % s < 256 := Int.lt_of_lt_of_le (Int.emod_lt_of_pos _ (by omega)) hs2
      have hring := H1.ring (i := ((f + (i + k)) % s).toNat) (by omega)
      have hJd : J k wr.drew.drew := hJ k wr _ none hJs ⟨rfl, rfl, rfl, Nat.le_refl _, fun _ _ _ => rfl⟩ (fun r e => by cases e)
      obtain ⟨fn, tmps, assign, body, hy, hR⟩ := hY k _ hJd hlt
      simp only [bencs] at hy
      have HR := Lib.hid hR
      have HH := Lib.hid H1
      clear hR hY H H1 hJd
      gi_wp2_with fail
      gi_region_with (first | (with_reducible refine And.intro h32 ?_; gi_at_call 32; refine (cin HF.out (place_is (HH.out.drew) hs hs2 hf hf2 (by omega) (by omega))).mono ?_; rintro e w' ⟨rfl, rfl⟩) | (with_reducible refine HR.out.mono ?_; intro e w3 hw3; obtain ⟨g, rfl, HG⟩ := one (A := fun W' => J (k + 1) W' ∧ Same [b, Bf, Bb] wr.drew.drew W') (B := Jx k) hw3; clear hw3))
      all_goals
        rcases HG.out with ⟨rfl, hJ3, hk3⟩ | ⟨rfl, hJx3⟩
        · have HH3 : BufAt w3 b r s f h a := ⟨HH.out.1, (hk3 b (by simp)).trans HH.out.2⟩
          obtain ⟨d0, d1, d2, d3⟩ := HH3.tail
          have HK := Lib.hid hk3
          clear hk3 HG HH3
          gi_wp2_with fail
          go_roundw
          case rel => exact ⟨k + 1, by omega, by simp; omega, hJ3, hnx.trans HK.out⟩
          case measure => simp [intOf]; omega
        · gi_wp2_with fail
          refine bodyPost_ret (results_none rfl _ _ _) rfl ?_
          exact ⟨⟨_, rfl⟩, .inr ⟨k, by omega, hJx3⟩⟩
    · have q0 : ¬ i + k < h := by omega
      gi_wp2
      go_end0
      obtain rfl : k = (h - i).toNat := by omega
      exact ⟨⟨_, rfl⟩, .inl hJs⟩

theorem iter_ord (G : FuncId → Prop) (hG : G = fun _ => True) (n : Nat) (hn : 3 ≤ n) (b Bf Bb : Nat) (r : List Int) (s f h a i : Int) (hs : 2 ≤ s) (hs2 : s ≤ 256) (hf : 0 ≤ f) (hf2 : f < s) (hh : h ≤ s) (hi : 0 ≤ i) (hi2 : i ≤ h) :
    OrdStops (FG G) n Try.prog 37 #[at0 Bf, at0 Bb] (bencs r s f i) (Same [b, Bf, Bb]) (h - i).toNat (fun W => BufAt W b r s f h a ∧ W.heap[Bf]? = some (.cells #[.int .i64 i] 3) ∧ W.heap[Bb]? = some (.cells #[at0 b] 25)) :=
  fun l J Jx W ⟨H, h1, h2⟩ hJ _ hY h0 => iter_in G hG n hn l b Bf Bb r s f h a i hs hs2 hf hf2 hh hi hi2 J Jx W H h1 h2 hJ hY h0
theorem same_b {bs : List Nat} {w : World} (hb : ∀ b ∈ bs, b < w.heap.size) (W : World) (l : Nat) (o o' : Obj) (hl : w.heap.size ≤ l) (h : W.heap[l]? = some o) (_ : o.isCells = false) (_ : o.isWalk = false) : Same bs W (W.putObj l o') :=
  fun b h => World.putObj_heap_other (by have := hb b h; omega)
end Go.Proofs.Ytogdhmbdackeeaa
