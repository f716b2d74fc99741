import Derived.Test.YtogdhmbdackeeaaF
import Derived.Maps.AppendAt
namespace Go.Proofs.Ytogdhmbdackeeaa
open Go.RowKit Go.Shelf
set_option linter.unusedVariables false
attribute [local go_sem] Oper.semAt_some

/-- The first k bytes that a buffer holds. -/
def held (r : List Int) (s f : Int) (k : Nat) : List Int := (List.range k).map fun (j : Nat) => rd r ((f + (j : Int)) % s).toNat
theorem held_succ (r : List Int) (s f : Int) (k : Nat) : held r s f (k + 1) = held r s f k ++ [rd r ((f + (k : Int)) % s).toNat] := by simp [held, List.range_succ]
theorem held_length (r : List Int) (s f : Int) (k : Nat) : (held r s f k).length = k := by simp [held]

theorem infoByte : (Try.prog.info? 5).map (fun i => (i.zero, i.size, i.bytes)) = some (some (.int .u8 0), 1, 1) := by kernel_rfl

theorem BufAt.grown {W W' : World} {row : Option Nat} {b : Nat} {r : List Int} {s f h a : Int} (H : BufAt W b r s f h a) (hg : W.grownBy W' row) (hne : some b ≠ row) : BufAt W' b r s f h a :=
  ⟨H.1, (hg.block b H.lt hne).trans H.2⟩

set_option maxRecDepth 100000 in
set_option maxHeartbeats 4000000 in
theorem bytes_in (G : FuncId → Prop) (hG : G = fun _ => True) (w : World) (b : Nat) (r : List Int) (s f h a : Int) (H : BufAt w b r s f h a) (hs : 2 ≤ s) (hs2 : s ≤ 256) (hf : 0 ≤ f) (hf2 : f < s) (hh : h ≤ s) (hh0 : 0 ≤ h) :
    CallsIn (FG G) 10 Try.prog 15 #[at0 b] w fun e w' => ∃ v, e = .returned v ∧ w'.ownsRow w.heap.size 5 1 v h.toNat ((held r s f h.toNat).map (.int .u8)) ∧ Below w.heap.size w w' := by
  obtain ⟨c0, c1, c2, c3⟩ := H.tail
  have HH := Lib.hid H
  have lb := H.lt
  have g29 := fnw hG 29; have g31 := fnw hG 31; have g37 := fnw hG 37; have g15 := fnw hG 15
  obtain ⟨i0, hi, hz0, hz1, hz2⟩ := info_parts infoByte
  have HG := Lib.hid hG
  clear hG H
  have h1 : (1 : Nat) ≤ 10 := by omega
  refine callsIn_of_wp_marks Try.func15 rfl g15 ?_ rfl
  simp only [Try.ntmps15, List.size_toArray, List.length_cons, List.length_nil, Nat.reduceAdd, Nat.reduceSub, Array.replicate_succ, Array.replicate_zero, List.push_toArray, List.append_toArray, List.nil_append, List.cons_append]
  gi_wp2_with (first | (with_reducible refine And.intro g29 ?_; gi_at_call 29; refine (cin HG.out (none_no HH.out hs)).mono ?_; rintro e w' ⟨rfl, rfl⟩) | (gi_at_make; refine wpListIn_make_own _ rfl _ _ 23 rfl w.heap.size 5 i0 (.int .u8 0) 1 Try.underlying23 hi hz0 hz1 .i64 .i64 h h.toNat rfl rfl (by omega) (by rw [hz2]; omega) (by simp [maxLen]; omega) (Nat.le_refl _) ?_; intro w1 hown hgr; have HO := Lib.hid hown; have HGr := Lib.hid hgr; clear hown hgr) | (with_reducible refine And.intro g31 ?_; gi_at_call 31; refine (cin HG.out (all_is _ _ _)).mono ?_; rintro e w' ⟨rfl, rfl⟩))
  have hN : w.heap.size ≤ w1.heap.size := HGr.out.size
  obtain ⟨WL, hWL⟩ : ∃ W, ((w1.alloc (.cells #[.slice (some ⟨w.heap.size, 0, none⟩) 0 h.toNat] 23)).alloc (.cells #[at0 b] 25)).alloc (.cells #[.int .i64 0] 3) = W := ⟨_, rfl⟩
  have hsz : WL.heap.size = w1.heap.size + 3 := by rw [← hWL]; simp
  have HB1 : BufAt w1 b r s f h a := HH.out.grown HGr.out (by simp)
  have HBL : BufAt WL b r s f h a := by rw [← hWL]; exact ((HB1.alloc _).alloc _).alloc _
  have hB0 : Below w.heap.size w WL := by rw [← hWL]; exact ((((Below.refl _ w).grown HGr.out (Nat.le_refl _) (fun k e => by cases e)).alloc hN _).alloc (by simp; omega) _).alloc (by simp; omega) _
  have bO : Boxed WL w1.heap.size 23 (.slice (some ⟨w.heap.size, 0, none⟩) 0 h.toNat) := by rw [← hWL]; exact ((Boxed.new w1 23 _).alloc _).alloc _
  have bB : Boxed WL (w1.heap.size + 1) 25 (at0 b) := by rw [← hWL]; have := (Boxed.new (w1.alloc (.cells #[.slice (some ⟨w.heap.size, 0, none⟩) 0 h.toNat] 23)) 25 (at0 b)).alloc (.cells #[.int .i64 0] 3); rwa [World.size_alloc] at this
  have bF : Boxed WL (w1.heap.size + 1 + 1) 3 (.int .i64 0) := by rw [← hWL]; have := Boxed.new ((w1.alloc (.cells #[.slice (some ⟨w.heap.size, 0, none⟩) 0 h.toNat] 23)).alloc (.cells #[at0 b] 25)) 3 (.int .i64 0); rwa [World.size_alloc, World.size_alloc] at this
  have hO : WL.ownsRow w.heap.size 5 1 (.slice (some ⟨w.heap.size, 0, none⟩) 0 h.toNat) 0 [] := by rw [← hWL]; exact ((HO.out.alloc _).alloc _).alloc _
  rw [hWL]
  clear hWL c0 c1 c2 c3
  have lb1 := HBL.lt
  refine wpIn_rangeFunc_ord rfl h1 (gf := 37) (lb := #[at0 (w1.heap.size + 1 + 1), at0 (w1.heap.size + 1)]) rfl g37 (enters_of Try.func37 (by kernel_rfl) rfl)
    (iter_ord G HG.out 9 (by omega) b (w1.heap.size + 1 + 1) (w1.heap.size + 1) r s f h a 0 hs hs2 hf hf2 hh (Int.le_refl _) hh0)
    (fun o o' => ⟨(HBL.alloc _).alloc _, (bF.alloc _).alloc _, (bB.alloc _).alloc _⟩) (fun h k => h.trans k) (same_b (by simp; omega)) (fun x => rfl)
    (fun k W => ((∃ v, Boxed W w1.heap.size 23 v ∧ W.ownsRow w.heap.size 5 1 v k ((held r s f k).map (Value.int .u8)) ∧ True) ∧ Boxed W (w1.heap.size + 1) 25 (at0 b) ∧ Boxed W (w1.heap.size + 1 + 1) 3 (.int .i64 0)) ∧ Below w.heap.size w W)
    (fun _ _ _ => False)
    (OwnFrom.and (Own.from (fun s' A B row hs' hg hr => ⟨holdsRow_own w.heap.size w1.heap.size 23 5 1 (fun k => k) (fun k => (held r s f k).map (Value.int .u8)) (fun _ _ => True) s' A B row hs'.1 hg hr, boxed_own (w1.heap.size + 1) 25 (fun _ : Nat => at0 b) s' A B row hs'.2.1 hg hr, boxed_own (w1.heap.size + 1 + 1) 3 (fun _ : Nat => .int .i64 0) s' A B row hs'.2.2 hg hr⟩) _) (ownFrom_below (Nat.le_refl _) (by omega)))
    (fun _ _ _ _ _ hs _ _ => hs)
    ⟨⟨⟨_, bO, by simpa [held] using hO, trivial⟩, bB, bF⟩, hB0⟩
    (fun k => { tmps := #[at0 b, undef, .slice none 0 0, at0 w1.heap.size, undef, .int .u8 (rd r ((f + (k : Int)) % s).toNat), at0 b, .bool false, at0 b, at0 b, .pointer (some ⟨b, 258, none⟩), .int .i64 h, .slice (some ⟨w.heap.size, 0, none⟩) 0 h.toNat, at0 b, itv (w1.heap.size + 1 + 1) (w1.heap.size + 1), .int .i64 (k : Int), .int .u8 (rd r ((f + (k : Int)) % s).toNat), undef, undef, undef, undef, undef], defers := [] }) ?assign ?body ?done ?stop
  case assign =>
    intro l x W K hK
    simp only [bencs]
    gi_wp2_with fail
    exact hK
  case body =>
    rintro l k W ⟨⟨⟨v, hv, hrow, _⟩, hbB, hbF⟩, hB⟩ hlt
    have hc := hv.cell
    have hk1 : k + 1 ≤ 256 := by omega
    have hle := hB.size
    gi_wp2_with (gi_at_builtin; refine wpListIn_append_own _ rfl _ _ 23 rfl w.heap.size 5 i0 (.int .u8 0) 1 1 Try.underlying23 hi hz0 hz1 hz2 rfl (by decide) _ _ _ rfl (hrow.alloc _) ⟨W.heap.size, 0, none⟩ 1 1 [.int .u8 (rd r ((f + (k : Int)) % s).toNat)] rfl rfl (cell_one_new _ _ _) (by simp [Value.oneCell']) (by simp [maxLen]; omega) (by omega) (by simp; omega) ?_; intro v' w2 hown' hgrow _; obtain ⟨g', cap', rfl⟩ := ownsRow_succ hown'; obtain ⟨hv1, hv2, hr2, hk2, hb2⟩ := hv.appended (by decide) hrow hB.size hN hown' hgrow; have hc1 := hv1.cell; have hf1 := hv1.frozen; have hbB2 := (hbB.alloc _).kept hgrow (hbB.not_row (by decide) hrow); have hbF2 := (hbF.alloc _).kept hgrow (hbF.not_row (by decide) hrow))
    have e1 := hbB2.other (B' := w1.heap.size) (by omega) (.slice (some ⟨g', 0, none⟩) (k + 1) cap')
    have e2 := hbF2.other (B' := w1.heap.size) (by omega) (.slice (some ⟨g', 0, none⟩) (k + 1) cap')
    refine ⟨hk2, ?_, ⟨⟨_, hv2, by rw [held_succ, List.map_append]; exact hr2, trivial⟩, e1, e2⟩, hB.trans hb2⟩
    intro c hc'
    simp only [List.mem_cons, List.not_mem_nil, or_false] at hc'
    rcases hc' with rfl | rfl | rfl
    · exact hb2.block _ lb
    · exact Eq.trans e2 (Eq.symm hbF)
    · exact Eq.trans e1 (Eq.symm hbB)
  case done =>
    rintro D W hD ⟨⟨⟨v, hv, hrow, _⟩, _, _⟩, hB⟩ hK
    have hc := hv.cell
    gi_wp2_with fail
    refine ⟨by simp, .inl ⟨_, _, rfl, run_takeDeferred hK, ?_⟩⟩
    refine ⟨_, results_tmp rfl _ _ _, v, rfl, ?_, hB.trans (belowK_b (w := w) (Nat.le_refl _) W D _ _ (by omega) hK rfl rfl)⟩
    have := ownsRow_putObj hrow (.deferred none) hK rfl
    simpa using this
  case stop =>
    rintro D c pre W _ _ h _
    exact h.elim

theorem bytes_is {w : World} {b : Nat} {r : List Int} {s f h a : Int} (H : BufAt w b r s f h a) (hs : 2 ≤ s) (hs2 : s ≤ 256) (hf : 0 ≤ f) (hf2 : f < s) (hh : h ≤ s) (hh0 : 0 ≤ h) :
    Calls Try.prog 15 #[at0 b] w fun e w' => ∃ v, e = .returned v ∧ w'.ownsRow w.heap.size 5 1 v h.toNat ((held r s f h.toNat).map (.int .u8)) ∧ Below w.heap.size w w' :=
  (callsIn_wide (n := 10)).1 (bytes_in (fun _ => True) rfl w b r s f h a H hs hs2 hf hf2 hh hh0)
end Go.Proofs.Ytogdhmbdackeeaa
