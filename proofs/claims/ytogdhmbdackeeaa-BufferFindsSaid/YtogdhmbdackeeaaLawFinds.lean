/- BufferFinds returns true for every size, every list of bytes, every two numbers and every index; no conditions. -/
import Derived.Test.YtogdhmbdackeeaaRows
import Derived.Test.YtogdhmbdackeeaaP
import Derived.WalkKit
import Derived.ProofKit
import Derived.OpenShut
import Derived.ShutString
import Derived.ChangeOld
import Derived.SizedLaws
import Derived.Below
import Derived.Lib.SmallJoins
import Derived.WideKeyPair
namespace Go.Proofs.Ytogdhmbdackeeaa.bufferFinds
open Go.ChangeShapes Go.WideShapes Go.ChangeAt Go.RowKit Go.Joins
open Go.ChangeMaps (open_string shut_string)
set_option linter.unusedVariables false

theorem own : ownKnob Try.prog.godebug = none := by kernel_rfl
theorem laidOut : laidOutB Try.prog = true := by kernel_rfl

/-- A slice of integers that came in: nil, or a row of cap cells. -/
def IsRow (k : IntKind) (w : World) (a : Option Addr) (len cap : Nat) (zs : List Int) : Prop :=
  (a = none ∧ len = 0 ∧ cap = 0 ∧ zs = []) ∨
  ∃ x, a = some x ∧ len ≤ cap ∧ cap ≤ maxLen ∧ zs.length = cap ∧ (∀ i, i < zs.length → w.cell? (x.add i) = some (.int k (zs.getD i 0))) ∧ ∀ n ∈ zs, (Lit.int k n).wf = true

theorem pairKey : WideMaps.ArrKey Try.prog 49 5 2 := ⟨Try.underlying49, by kernel_rfl, by kernel_rfl, by kernel_rfl⟩
theorem open_pair {H : Type} {enc : TypeId × Value → H} {W : World} {base : Nat} {sp : Nat → Bool} {held : Bool} {c0 c1 : Value} {d : DataW H} {ps : List MemPlace} (hd : DataW.Trod enc Try.prog W base sp held 49 (.agg #[c0, c1]) d ps) :
    ∃ x y : Int, c0 = .int .u8 x ∧ c1 = .int .u8 y ∧ (Lit.int .u8 x).wf = true ∧ (Lit.int .u8 y).wf = true := by
  obtain ⟨fuel, hf⟩ := hd
  cases fuel with
  | zero => simp [DataW.trod] at hf
  | succ m =>
    rw [DataW.trod_step] at hf
    unfold DataW.trodStep at hf
    simp only [pairKey.hu, Value.cells] at hf
    rw [if_pos (by rw [pairKey.size]; rfl)] at hf
    simp only [Option.map_eq_some_iff] at hf
    obtain ⟨ys, hy, e1⟩ := hf
    have e5 : Try.prog.cellsOf 5 = 1 := pairKey.one
    simp only [List.range, List.range.loop, List.mapM_cons, List.mapM_nil, bind, Option.bind_eq_some_iff, pure, e5] at hy
    obtain ⟨y0, h0, ys1, ⟨y1, h1, _⟩, _⟩ := hy
    obtain ⟨x, ex, _, wx⟩ := DataW.trod_int Try.underlying5 h0
    obtain ⟨y, ey, _, wy⟩ := DataW.trod_int Try.underlying5 h1
    simp at ex ey
    exact ⟨x, y, ex, ey, wx, wy⟩

theorem walk (a0 : Int) (a1 : Option Addr) (len1 cap1 : Nat) (z1 : List Int) (a2 b2 : Int) (a3 : Int) (w : World) (w0 : (Lit.int .u8 a0).wf = true) (w1 : IsRow .u8 w a1 len1 cap1 z1) (w2 : (Lit.int .u8 a2).wf = true) (u2 : (Lit.int .u8 b2).wf = true) (w3 : (Lit.int .i64 a3).wf = true) :
    Calls Try.prog 6 #[.int .u8 a0, .slice a1 len1 cap1, .agg #[.int .u8 a2, .int .u8 b2], .int .i64 a3] w fun e w' => e = .returned (.bool true) ∧ Below w.heap.size w w' := by
  have h0 := u8_of w0
  have h2 := u8_of w2
  have k2 := u8_of u2
  have h3 := i64_of w3
  rcases w1 with ⟨rfl, rfl, rfl, rfl⟩ | ⟨x, rfl, hlc, hcm, hz, hc, hwf⟩
  · exact finds_true a0 a2 b2 a3 h0.1 h0.2 h2.1 h2.2 k2.1 k2.2 h3.1 h3.2 none 0 [] (fun x hx => by simp at hx) (Nat.le_refl _) (by omega) (fun _ => ⟨rfl, rfl⟩) w ⟨none, 0, rfl, fun j hj => by simp at hj⟩
  · have hcm' : cap1 ≤ 9223372036854775807 := by unfold maxLen at hcm; exact hcm
    have hl : (z1.take len1).length = len1 := by rw [List.length_take]; omega
    have hb : Bytes (z1.take len1) := fun y hy => by have := u8_of (hwf y (List.mem_of_mem_take hy)); omega
    have hr : Reads w (.slice (some x) (z1.take len1).length cap1) (z1.take len1) := by
      refine ⟨some x, cap1, rfl, fun j hj => ?_⟩
      have hx : x = ⟨x.block, x.off, none⟩ := by
        have h := hc 0 (by omega)
        rw [show x.add 0 = x from rfl] at h
        obtain ⟨bb, oo, sp⟩ := x
        cases sp with
        | none => rfl
        | some s =>
          simp only [World.cell?] at h
          split at h <;> simp at h
      refine ⟨x.block, x.off, by rw [← hx], ?_⟩
      have h := hc j (by omega)
      rw [hx] at h
      have e : rd (z1.take len1) j = z1.getD j 0 := by
        simp [rd, List.getElem?_take_of_lt (show j < len1 by omega)]
      rw [e]
      by_cases h0 : j = 0
      · subst h0; exact h
      · simpa [Addr.add, h0] using h
    have := finds_true a0 a2 b2 a3 h0.1 h0.2 h2.1 h2.2 k2.1 k2.2 h3.1 h3.2 (some x) cap1 (z1.take len1) hb (by omega) hcm' (fun h => by cases h) w hr
    rwa [hl] at this

set_option maxRecDepth 100000 in
theorem lifted (os : Os) (started : os.Started) (H : Type) (enc : TypeId × Value → H) :
    ReturnsInHanded {} Try.checked os 6 .any (Rows.bufferFindsSpec.pre6 enc Try.prog Try.f6 Rows.bufferFindsRow.domain false) (Rows.bufferFindsSpec.post enc Try.prog Try.f6 false true false false) := by
  refine returnsInHanded_of_change_sized (C := Try.checked) own started (by kernel_rfl) Try.func6
    (ChangeSpec.witness6 (enc := enc) (C := Try.checked) false ⟨#[], #[.int .u8 0, .slice none 0 0, .agg #[.int .u8 0, .int .u8 0], .int .i64 0], []⟩ 8 (by kernel_rfl) (by kernel_rfl) (by kernel_rfl) (by kernel_rfl)) ?_
  intro W base args ds gs before hval0 hW hcnd hsz0 _
  have hval : ∀ (j : Nat) t v, Try.f6.params[j]? = some t → args[j]? = some v → Value.okWide Try.prog W .any base t v := hval0
  have hW' := hW
  obtain ⟨p, q, hA0, hV, rfl, hfz, hnd⟩ := hW
  have hA : DataW.TrodAll enc Try.prog W 0 (fun _ => true) true Try.f6.params.toList args.toList ds p := hA0
  rw [Try.params6] at hA hval
  obtain ⟨v0, vs0, d0, ds0, p0, q0, hargs, rfl, rfl, h0, r0⟩ := trodAll_cons hA
  obtain ⟨v1, vs1, d1, ds1, p1, q1, rfl, rfl, rfl, h1, r1⟩ := trodAll_cons r0
  obtain ⟨v2, vs2, d2, ds2, p2, q2, rfl, rfl, rfl, h2, r2⟩ := trodAll_cons r1
  obtain ⟨v3, vs3, d3, ds3, p3, q3, rfl, rfl, rfl, h3, r3⟩ := trodAll_cons r2
  obtain ⟨rfl, rfl, rfl⟩ := trodAll_nil r3
  obtain rfl : args = #[v0, v1, v2, v3] := by cases args; simp_all
  obtain ⟨rfl, rfl⟩ := trodVars_none hV
  have k0 := h0
  have lt0 : ∀ x ∈ p0, x.block < W.heap.size := by obtain ⟨m, hm⟩ := k0; exact DataW.trod_lt m _ _ _ hm
  obtain ⟨a0, rfl, rfl, rfl, w0⟩ := open_int Try.underlying5 (hval 0 5 v0 rfl rfl) h0
  have k1 := h1
  have lt1 : ∀ x ∈ p1, x.block < W.heap.size := by obtain ⟨m, hm⟩ := k1; exact DataW.trod_lt m _ _ _ hm
  obtain ⟨a1, len1, cap1, rfl⟩ := okWide_slice Try.underlying23 (hval 1 23 v1 rfl rfl)
  obtain ⟨z1, w1⟩ : ∃ zs, IsRow .u8 W a1 len1 cap1 zs := by
    obtain ⟨fuel, hf⟩ := h1
    rcases open_ints Try.underlying23 Try.underlying5 (by kernel_rfl) hf with ⟨hcs, _⟩ | ⟨x, l, c, zs, hcs, _, hl, hm, hz, _, hcell, hwz⟩
    · simp [Value.cells] at hcs
      obtain ⟨rfl, rfl, rfl⟩ := hcs
      exact ⟨[], .inl ⟨rfl, rfl, rfl, rfl⟩⟩
    · simp [Value.cells] at hcs
      obtain ⟨rfl, rfl, rfl⟩ := hcs
      exact ⟨zs, .inr ⟨_, rfl, hl, hm, by simpa using hz, hcell, hwz⟩⟩
  have k2 := h2
  have lt2 : ∀ x ∈ p2, x.block < W.heap.size := by obtain ⟨m, hm⟩ := k2; exact DataW.trod_lt m _ _ _ hm
  obtain ⟨c2a, c2b, rfl⟩ := WideMaps.okWide_pair pairKey (hval 2 49 v2 rfl rfl)
  obtain ⟨a2, b2, rfl, rfl, w2, u2⟩ := open_pair h2
  have k3 := h3
  have lt3 : ∀ x ∈ p3, x.block < W.heap.size := by obtain ⟨m, hm⟩ := k3; exact DataW.trod_lt m _ _ _ hm
  obtain ⟨a3, rfl, rfl, rfl, w3⟩ := open_int Try.underlying3 (hval 3 3 v3 rfl rfl) h3
  clear hA0 hval0
  refine (walk a0 a1 len1 cap1 z1 a2 b2 a3 W w0 w1 w2 u2 w3).mono fun e W' ⟨he, bel⟩ => ?_
  subst he
  exact ⟨_, rfl, _, _, _, [], _, [], hW', trodAll_mk1 (shut_bool Try.underlying4 _), (trodAll_cons_mk (Below.trod laidOut (by kernel_rfl) (of_decide_eq_true (by kernel_rfl)) k0 bel lt0) (trodAll_cons_mk (Below.trod laidOut (by kernel_rfl) (of_decide_eq_true (by kernel_rfl)) k1 bel lt1) (trodAll_cons_mk (Below.trod laidOut (by kernel_rfl) (of_decide_eq_true (by kernel_rfl)) k2 bel lt2) (trodAll_cons_mk (Below.trod laidOut (by kernel_rfl) (of_decide_eq_true (by kernel_rfl)) k3 bel lt3) trodAll_mk0)))), rfl, bel.frame _, fun h => by cases h⟩

theorem over : Rows.bufferFindsRow.holds Try.pinned (OpenSpec.ofChange Rows.bufferFindsSpec) :=
  OpenClaim.holds_of_wide 6 Try.f6 rfl rfl rfl rfl rfl rfl rfl ⟨rfl, rfl, rfl, rfl, rfl⟩ rfl rfl rfl rfl rfl (by kernel_rfl) Try.func6 (by kernel_rfl)
    (of_decide_eq_true (by kernel_rfl)) (by unfold Func.isWrapper; first | (rw [if_pos (by decide +kernel)]; kernel_rfl) | (rw [if_neg (by decide +kernel)]; exact ⟨rfl, rfl⟩))
    (fun os started H enc _ => lifted os started H enc)
end Go.Proofs.Ytogdhmbdackeeaa.bufferFinds
namespace Go.Proofs.Ytogdhmbdackeeaa
theorem bufferFinds_holds : Rows.BufferFindsSaid := bufferFinds.over
#print axioms bufferFinds_holds
end Go.Proofs.Ytogdhmbdackeeaa
