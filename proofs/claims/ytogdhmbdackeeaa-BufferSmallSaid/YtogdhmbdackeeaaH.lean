import Derived.Test.YtogdhmbdackeeaaG
import Derived.BigRegionIn
import Derived.WalkMore
namespace Go.Proofs.Ytogdhmbdackeeaa
open Go.RowKit Go.Shelf
set_option linter.unusedVariables false
attribute [local go_sem] Oper.semAt_some

theorem scope_in {G : FuncId → Prop} {n : Nat} {P : Program} {c : Code} {Q : Exit → Act → World → Prop} {a : Act} {w : World} (hG : G = fun _ => True) (h : c.wpIn (FG G) n P (Exit.noGoto Q) a w) : (Code.scope c).wpIn (FG G) n P Q a w := by
  subst hG; exact wpIn_wide.2 (wp_scope_straight (wpIn_wide.1 h))

/-- What the outer loop's variable holds. -/
def ctr (a : Act) (w : World) : Int := match a.tmps.getD 7 undef with
  | .pointer (some ad) => match w.cell? ad with
    | some (.int _ i) => i
    | _ => 0
  | _ => 0
theorem ctr_eq {a : Act} {w : World} {B : Nat} {i : Int} (h : a.tmps.getD 7 undef = at0 B) (hc : w.cell? ⟨B, 0, none⟩ = some (.int .i64 i)) : ctr a w = i := by simp [ctr, h, hc]

def mark (D : Nat) : Deferred := { target := .collected D, args := #[] }
/-- The marks of the loops over functions that are over: new blocks, all different, no deferred call in them. -/
def Marks (N : Nat) (W : World) (Ds : List Nat) : Prop := Ds.Nodup ∧ ∀ D ∈ Ds, N ≤ D ∧ W.heap[D]? = some (.deferred (some []))
theorem Marks.below {N : Nat} {W W' : World} {Ds : List Nat} (h : Marks N W Ds) (hb : Below W.heap.size W W') : Marks N W' Ds :=
  ⟨h.1, fun D hD => ⟨(h.2 D hD).1, carry hb (h.2 D hD).2⟩⟩
theorem leaves_marks {F : Fence} {n : Nat} {P : Program} {fn : Func} {tmps : Array Value} {R : Ending → World → Prop} {N : Nat} : ∀ (Ds : List Nat) (W : World), Marks N W Ds →
    (∀ W', Below N W W' → LeavesIn F n P fn tmps R [] .returning W') → LeavesInM F n P fn tmps R (Ds.map mark) .returning W := by
  intro Ds
  induction Ds with
  | nil => intro W _ h; exact h W (Below.refl _ _)
  | cons D Ds ih =>
    intro W hM h
    obtain ⟨hnd, hall⟩ := hM
    have hD := hall D (by simp)
    have hnd' := List.nodup_cons.1 hnd
    have hb : Below N W (W.putObj D (.deferred none)) := (Below.refl N W).grown (grownBy_putObj' W D _) (by have := (Array.getElem?_eq_some_iff.1 hD.2).1; omega) (fun k e => by cases e; omega)
    refine ⟨by simp, .inl ⟨D, _, rfl, run_takeDeferred hD.2, ?_⟩⟩
    refine ih _ ⟨hnd'.2, fun D' hD' => ⟨(hall D' (by simp [hD'])).1, ?_⟩⟩ (fun W' hb' => h W' (hb.trans hb'))
    exact (World.putObj_heap_other (fun e => hnd'.1 (by rw [← e]; exact hD'))).trans (hall D' (by simp [hD'])).2

/-- The slice sv reads the bytes p. -/
def Reads (w : World) (sv : Value) (p : List Int) : Prop := ∃ sa c, sv = .slice sa p.length c ∧ ∀ j, j < p.length → ∃ pb po, sa = some ⟨pb, po, none⟩ ∧ w.cell? ⟨pb, po + j, none⟩ = some (.int .u8 (rd p j))
theorem Reads.next {w w' : World} {sv : Value} {p : List Int} (h : Reads w sv p) (hb : Below w.heap.size w w') : Reads w' sv p := by
  obtain ⟨sa, c, e, hc⟩ := h
  refine ⟨sa, c, e, fun j hj => ?_⟩
  obtain ⟨pb, po, e1, e2⟩ := hc j hj
  exact ⟨pb, po, e1, (hb.cell (p := ⟨pb, po + j, none⟩) (World.block_lt_of_cell? _ _ e2)).trans e2⟩

/-- The bytes p stand at i among what is held. -/
def Match (r : List Int) (s f : Int) (p : List Int) (i : Int) (k : Nat) : Prop := ∀ j : Nat, j < k → rd r ((f + (i + j)) % s).toNat = rd p j

/-- What Find answers. -/
def Found (r : List Int) (s f h : Int) (p : List Int) (fr v : Int) : Prop :=
  (v = -1 ∧ ∀ i, fr ≤ i → i + p.length ≤ h → ¬ Match r s f p i p.length) ∨
  (fr ≤ v ∧ v + p.length ≤ h ∧ Match r s f p v p.length ∧ ∀ i, fr ≤ i → i < v → ¬ Match r s f p i p.length)

set_option maxRecDepth 100000 in
set_option maxHeartbeats 4000000 in
theorem find_in (G : FuncId → Prop) (hG : G = fun _ => True) (w : World) (b : Nat) (r : List Int) (s f h a fr : Int) (H : BufAt w b r s f h a) (hs : 2 ≤ s) (hs2 : s ≤ 256) (hf : 0 ≤ f) (hf2 : f < s) (hh : h ≤ s) (hh0 : 0 ≤ h)
    (sa : Option Addr) (sc : Nat) (p : List Int) (hp : p.length ≤ 1000) (hcell : ∀ j, j < p.length → ∃ pb po, sa = some ⟨pb, po, none⟩ ∧ w.cell? ⟨pb, po + j, none⟩ = some (.int .u8 (rd p j))) (hfr : 0 ≤ fr) (hfr2 : fr ≤ h) :
    CallsIn (FG G) 10 Try.prog 23 #[at0 b, .slice sa p.length sc, .int .i64 fr] w fun e w' => ∃ v, e = .returned (.int .i64 v) ∧ Found r s f h p fr v ∧ Below w.heap.size w w' := by
  obtain ⟨c0, c1, c2, c3⟩ := H.tail
  have HH := Lib.hid H
  have HC := Lib.hid hcell
  have lb := H.lt
  have g29 := fnw hG 29; have g31 := fnw hG 31; have g37 := fnw hG 37; have g23 := fnw hG 23
  have HG := Lib.hid hG
  clear hG H hcell
  have h1 : (1 : Nat) ≤ 10 := by omega
  have ca := fun o off => cell_alloc_lt (o := o) (off := off) lb
  refine callsIn_of_wp_marks Try.func23 rfl g23 ?_ rfl
  simp only [Try.ntmps23, List.size_toArray, List.length_cons, List.length_nil, Nat.reduceAdd, Nat.reduceSub, Array.replicate_succ, Array.replicate_zero, List.push_toArray, List.append_toArray, List.nil_append, List.cons_append]
  gi_wp2_with (with_reducible refine And.intro g29 ?_; gi_at_call 29; refine (cin HG.out (none_no (HH.out.alloc _) hs)).mono ?_; rintro e w' ⟨rfl, rfl⟩)
  refine scope_in HG.out ?_
  gi_wp2_with (with_reducible refine And.intro g29 ?_; gi_at_call 29; refine (cin HG.out (none_no (HH.out.alloc _) hs)).mono ?_; rintro e w' ⟨rfl, rfl⟩)
  refine wpIn_label ?_
  gi_wp2_with fail
  have bS0 := (Boxed.new w 23 (.slice sa p.length sc)).alloc (.cells #[.int .i64 fr] 3)
  have bI0 := Boxed.new (w.alloc (.cells #[.slice sa p.length sc] 23)) 3 (.int .i64 fr)
  rw [World.size_alloc] at bI0
  have BS := Lib.hid bS0; have BI := Lib.hid bI0
  clear ca c0 c1 c2 c3 bS0 bI0
  refine wpIn_loop (fun a' w' => ∃ (i : Int) (Bi : Nat) (Ds : List Nat) (u8 u9 u10 u11 u12 u13 u14 u15 u16 u17 u18 u19 u20 u21 u22 u23 u24 u25 u26 u27 u28 u29 u30 u31 u32 u33 u34 u35 u36 u37 u38 u39 u40 u41 u42 u43 u44 u45 u46 u47 u48 u49 u50 u51 u52 u53 u54 u55 u56 : Value), a' = { tmps := #[at0 b, .slice sa p.length sc, .int .i64 fr, undef, at0 w.heap.size, undef, .int .i64 0, at0 Bi, u8, u9, u10, u11, u12, u13, u14, u15, u16, u17, u18, u19, u20, u21, u22, u23, u24, u25, u26, u27, u28, u29, u30, u31, u32, u33, u34, u35, u36, u37, u38, u39, u40, u41, u42, u43, u44, u45, u46, u47, u48, u49, u50, u51, u52, u53, u54, u55, u56], defers := Ds.map mark } ∧ fr ≤ i ∧ i ≤ h + 1 ∧ (∀ i', fr ≤ i' → i' < i → ¬ Match r s f p i' p.length) ∧ w.heap.size < Bi ∧ Boxed w' Bi 3 (.int .i64 i) ∧ Boxed w' w.heap.size 23 (.slice sa p.length sc) ∧ Below w.heap.size w w' ∧ Marks w.heap.size w' Ds)
    (fun a' w' => (h + 1 - ctr a' w').toNat) ?start ?round
  case start =>
    refine ⟨fr, w.heap.size + 1, [], _, _, _, _, _, _, _, _, _, _, _, _, _, _, _, _, _, _, _, _, _, _, _, _, _, _, _, _, _, _, _, _, _, _, _, _, _, _, _, _, _, _, _, _, _, _, _, _, _, rfl, Int.le_refl _, by omega, fun i' h1 h2 => by omega, by omega, BI.out, BS.out, ((Below.refl _ w).alloc (Nat.le_refl _) _).alloc (by simp) _, List.nodup_nil, fun D hD => by simp at hD⟩
  case round =>
    rintro a' wr ⟨i, Bi, Ds, u8, u9, u10, u11, u12, u13, u14, u15, u16, u17, u18, u19, u20, u21, u22, u23, u24, u25, u26, u27, u28, u29, u30, u31, u32, u33, u34, u35, u36, u37, u38, u39, u40, u41, u42, u43, u44, u45, u46, u47, u48, u49, u50, u51, u52, u53, u54, u55, u56, rfl, hi1, hi2, hno, hBi, hbI, hbS, hB, hM⟩
    have HB := Lib.hid hB; have HM := Lib.hid hM; have HNO := Lib.hid hno; have HBI := Lib.hid hbI; have HBS := Lib.hid hbS
    have H1 := HH.out.next hB
    obtain ⟨c0, c1, c2, c3⟩ := H1.tail
    have ci := hbI.cell
    have cs := hbS.cell
    have li := hbI.lt
    have lb1 := H1.lt
    have HH1 := Lib.hid H1
    clear hB hM hno hbI hbS H1
    have ca := fun o off => cell_alloc_lt (o := o) (off := off) li
    gi_wp2_with fail
    gi_quiet (fail)
    gi_wp2_with (with_reducible refine And.intro g31 ?_; gi_at_call 31; refine (cin HG.out (all_is _ _ _)).mono ?_; rintro e w' ⟨rfl, rfl⟩)
    · have hip : i + p.length ≤ h := by assumption
      have hi0 : 0 ≤ i := by omega
      obtain ⟨WL, hWL⟩ : ∃ W, ((wr.drewN nq).alloc (.cells #[at0 b] 25)).alloc (.cells #[.int .i64 i] 3) = W := ⟨_, rfl⟩
      have hsz : WL.heap.size = wr.heap.size + 2 := by rw [← hWL]; simp
      have hbL : Below wr.heap.size wr WL := by rw [← hWL]; exact ((bdrewN (Below.refl _ wr) nq).alloc (Nat.le_refl _) _).alloc (by simp) _
      have bB : Boxed WL wr.heap.size 25 (at0 b) := by rw [← hWL]; exact (Boxed.new (wr.drewN nq) 25 (at0 b)).alloc _
      have bF : Boxed WL (wr.heap.size + 1) 3 (.int .i64 i) := by rw [← hWL]; have := Boxed.new ((wr.drewN nq).alloc (.cells #[at0 b] 25)) 3 (.int .i64 i); rwa [World.size_alloc] at this
      have HBL : BufAt WL b r s f h a := HH1.out.next hbL
      have hbI : Boxed WL Bi 3 (.int .i64 i) := carry hbL HBI.out
      have hbS : Boxed WL w.heap.size 23 (.slice sa p.length sc) := carry hbL HBS.out
      have hM : Marks w.heap.size WL Ds := HM.out.below hbL
      have hB : Below w.heap.size w WL := bnext HB.out hbL
      rw [hWL]
      have HL := Lib.hid HBL; have HbI := Lib.hid hbI; have HbS := Lib.hid hbS; have HML := Lib.hid hM; have HBB := Lib.hid hB
      clear hWL c0 c1 c2 c3 ci cs ca HBL hbI hbS hM hB
      refine wpIn_rangeFunc_ord rfl h1 (gf := 37) (lb := #[at0 (wr.heap.size + 1), at0 wr.heap.size]) rfl g37 (enters_of Try.func37 (by kernel_rfl) rfl)
        (iter_ord G HG.out 9 (by omega) b (wr.heap.size + 1) wr.heap.size r s f h a i hs hs2 hf hf2 hh hi0 (by omega))
        (fun o o' => ⟨(HL.out.alloc _).alloc _, (bF.alloc _).alloc _, (bB.alloc _).alloc _⟩) (fun h k => h.trans k) (same_b (by simp; omega)) (fun x => rfl)
        (fun k W => (Match r s f p i k ∧ k ≤ p.length) ∧ Below WL.heap.size WL W)
        (fun c k W => ((c = .exit 2 ∧ Match r s f p i p.length) ∨ (c = .exit 1 ∧ ¬ Match r s f p i p.length)) ∧ Below WL.heap.size WL W)
        (OwnFrom.and (ownFrom_pure _ _) (ownFrom_below (Nat.le_refl _) (Nat.le_refl _)))
        (fun c => OwnFrom.and (ownFrom_pure _ _) (ownFrom_below (Nat.le_refl _) (Nat.le_refl _)))
        ⟨⟨fun j hj => by omega, Nat.zero_le _⟩, Below.refl _ _⟩
        (fun k => { tmps := #[at0 b, .slice sa p.length sc, .int .i64 fr, undef, at0 w.heap.size, undef, .int .i64 0, at0 Bi, .int .i64 (i + (k : Int)), .int .u8 (rd r ((f + (i + (k : Int))) % s).toNat), u10, u11, u12, u13, u14, u15, u16, u17, u18, u19, u20, u21, u22, u23, u24, .int .i64 i, .slice sa p.length sc, .int .i64 (p.length : Int), .int .i64 (i + (p.length : Int)), at0 b, at0 b, .pointer (some ⟨b, 258, none⟩), .int .i64 h, .bool true, u34, u35, at0 b, .int .i64 i, itv (wr.heap.size + 1) wr.heap.size, .int .i64 (i + (k : Int)), .int .u8 (rd r ((f + (i + (k : Int))) % s).toNat), u41, u42, u43, u44, u45, u46, u47, u48, u49, u50, u51, u52, u53, u54, u55, u56], defers := [] }) ?assign ?body ?done ?stop
      case assign =>
        intro l x W K hK
        simp only [bencs]
        gi_wp2_with fail
        exact hK
      case body =>
        rintro l k W ⟨⟨hm, hk⟩, hbW⟩ hlt
        have ci := (show Boxed W Bi 3 (.int .i64 i) from carry hbW HbI.out).cell
        have cs := (show Boxed W w.heap.size 23 (.slice sa p.length sc) from carry hbW HbS.out).cell
        have HM0 := Lib.hid hm
        have HBW := Lib.hid hbW
        have hwW : Below w.heap.size w W := bnext HBB.out hbW
        have HWW := Lib.hid hwW
        clear hm hbW hwW
        by_cases hkp : k = p.length
        · subst hkp
          gi_wp2_with fail
          exact ⟨KeepsOthers.refl _, .inl ⟨rfl, HM0.out⟩, HBW.out⟩
        · have hkk : (i + (k : Int) - i == (p.length : Int)) = false := by simp; omega
          obtain ⟨pb, po, e, hc⟩ := HC.out k (by omega)
          subst e
          have hc2 : W.cell? ⟨pb, po + (i + (k : Int) - i).toNat, none⟩ = some (.int .u8 (rd p k)) := by rw [show (i + (k : Int) - i).toNat = k by omega]; exact (HWW.out.cell (p := ⟨pb, po + k, none⟩) (World.block_lt_of_cell? _ _ hc)).trans hc
          clear hc
          by_cases hq : rd r ((f + (i + (k : Int))) % s).toNat = rd p k
          · have hqq : (rd r ((f + (i + (k : Int))) % s).toNat != rd p k) = false := by simp [hq]
            have HQ := Lib.hid hq
            clear hq
            gi_wp2_with fail
            exact ⟨KeepsOthers.refl _, Same.refl, ⟨fun j hj => (by rcases Nat.lt_succ_iff_lt_or_eq.1 hj with h | rfl; · exact HM0.out j h
                                                                   · exact HQ.out), by omega⟩, HBW.out⟩
          · have hqq : (rd r ((f + (i + (k : Int))) % s).toNat != rd p k) = true := by simp [hq]
            have HQ := Lib.hid hq
            clear hq
            gi_wp2_with fail
            exact ⟨KeepsOthers.refl _, .inr ⟨rfl, fun hm => HQ.out (hm k (by omega))⟩, HBW.out⟩
      case done =>
        rintro D W hD ⟨⟨hm, hk⟩, hbW⟩ hK
        have hkp : (h - i).toNat = p.length := by omega
        rw [hkp] at hm
        have ci := (show Boxed W Bi 3 (.int .i64 i) from carry hbW HbI.out).cell
        have ci2 := (show Boxed W Bi 3 (.int .i64 i) from carry hbW HbI.out).frozen
        have HBI2 := Lib.hid (show Boxed W Bi 3 (.int .i64 i) from carry hbW HbI.out)
        have HBS2 := Lib.hid (show Boxed W w.heap.size 23 (.slice sa p.length sc) from carry hbW HbS.out)
        have hM2 := HML.out.below hbW
        have HM2 : Hid (Marks w.heap.size W (D :: Ds)) := Lib.hid ⟨List.nodup_cons.2 ⟨fun hmem => by have := (Array.getElem?_eq_some_iff.1 (HML.out.2 D hmem).2).1; omega, hM2.1⟩, fun D' hD' => by
          rcases List.mem_cons.1 hD' with rfl | hD'
          · exact ⟨by have := HBB.out.size; omega, hK⟩
          · exact hM2.2 D' hD'⟩
        have HB2 := Lib.hid (bnext HBB.out hbW)
        clear hM2 hbW hK
        have HMM := Lib.hid hm
        clear hm hk
        gi_wp2_with fail
        rw [Exit.noGoto_ret]
        refine leaves_marks (D :: Ds) _ HM2.out (fun W' hb' => ⟨_, results_tmp rfl _ _ _, i, rfl, .inr ⟨hi1, hip, HMM.out, HNO.out⟩, HB2.out.trans hb'⟩)
      case stop =>
        rintro D c k W hD hk ⟨hx, hbW⟩ hK
        have ci := (show Boxed W Bi 3 (.int .i64 i) from carry hbW HbI.out).cell
        have ci2 := (show Boxed W Bi 3 (.int .i64 i) from carry hbW HbI.out).frozen
        have HBI2 := Lib.hid (show Boxed W Bi 3 (.int .i64 i) from carry hbW HbI.out)
        have HBS2 := Lib.hid (show Boxed W w.heap.size 23 (.slice sa p.length sc) from carry hbW HbS.out)
        have hM2 := HML.out.below hbW
        have HM2 : Hid (Marks w.heap.size W (D :: Ds)) := Lib.hid ⟨List.nodup_cons.2 ⟨fun hmem => by have := (Array.getElem?_eq_some_iff.1 (HML.out.2 D hmem).2).1; omega, hM2.1⟩, fun D' hD' => by
          rcases List.mem_cons.1 hD' with rfl | hD'
          · exact ⟨by have := HBB.out.size; omega, hK⟩
          · exact hM2.2 D' hD'⟩
        have HB2 := Lib.hid (bnext HBB.out hbW)
        clear hM2 hbW hK
        rcases hx with ⟨rfl, hm⟩ | ⟨rfl, hm⟩
        · have HMM := Lib.hid hm
          clear hm
          gi_wp2_with fail
          rw [Exit.noGoto_ret]
          refine leaves_marks (D :: Ds) _ HM2.out (fun W' hb' => ⟨_, results_tmp rfl _ _ _, i, rfl, .inr ⟨hi1, hip, HMM.out, HNO.out⟩, HB2.out.trans hb'⟩)
        · have HMM := Lib.hid hm
          clear hm
          gi_wp2_with fail
          have hlS := HBS2.out.lt
          refine ⟨⟨i + 1, W.heap.size, D :: Ds, _, _, _, _, _, _, _, _, _, _, _, _, _, _, _, _, _, _, _, _, _, _, _, _, _, _, _, _, _, _, _, _, _, _, _, _, _, _, _, _, _, _, _, _, _, _, _, _, _, rfl, by omega, by omega, fun i' h1 h2 hm => ?_, hlS, Boxed.new W 3 _, HBS2.out.alloc _, HB2.out.alloc HB2.out.size _, HM2.out.below ((Below.refl _ W).alloc (Nat.le_refl _) _)⟩, ?_⟩
          · rcases (show i' < i ∨ i' = i by omega) with h3 | rfl
            · exact HNO.out i' h1 h3 hm
            · exact HMM.out hm
          · rw [ctr_eq rfl (Boxed.new W 3 _).cell, ctr_eq rfl HBI.out.cell]
            omega
    · rw [Exit.noGoto_ret]
      refine leaves_marks Ds _ (HM.out.below (bdrewN (Below.refl _ _) nq)) (fun W' hb' => ⟨_, results_tmp rfl _ _ _, -1, rfl, .inl ⟨rfl, fun i' h1 h2 hm => HNO.out i' h1 (by omega) hm⟩, (bdrewN HB.out nq).trans hb'⟩)

theorem find_is {w : World} {b : Nat} {r : List Int} {s f h a fr : Int} {sv : Value} {p : List Int} (H : BufAt w b r s f h a) (hs : 2 ≤ s) (hs2 : s ≤ 256) (hf : 0 ≤ f) (hf2 : f < s) (hh : h ≤ s) (hh0 : 0 ≤ h) (hr : Reads w sv p) (hp : p.length ≤ 1000) (hfr : 0 ≤ fr) (hfr2 : fr ≤ h) :
    Calls Try.prog 23 #[at0 b, sv, .int .i64 fr] w fun e w' => ∃ v, e = .returned (.int .i64 v) ∧ Found r s f h p fr v ∧ Below w.heap.size w w' := by
  obtain ⟨sa, sc, rfl, hc⟩ := hr
  exact (callsIn_wide (n := 10)).1 (find_in (fun _ => True) rfl w b r s f h a fr H hs hs2 hf hf2 hh hh0 sa sc p hp hc hfr hfr2)
end Go.Proofs.Ytogdhmbdackeeaa
