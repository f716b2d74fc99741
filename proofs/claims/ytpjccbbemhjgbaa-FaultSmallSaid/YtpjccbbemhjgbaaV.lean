import Derived.Test.YtpjccbbemhjgbaaU
namespace Go.Proofs.Ytpjccbbemhjgbaa
open Go.RowKit
set_option linter.unusedVariables false

theorem Two.wide {p q : Nat} {w w0 w1 w2 : World} (h0 : Below w.heap.size w w0) (h1 : Two p q w0 w1) (h2 : Below w.heap.size w1 w2) : Two p q w w2 :=
  ⟨h2.os.trans (h1.os.trans h0.os), h2.tape.trans (h1.tape.trans h0.tape), h2.output.trans (h1.output.trans h0.output), Nat.le_trans h0.size (Nat.le_trans h1.size h2.size),
    fun k hk a b => (h2.block k hk).trans ((h1.block k (Nat.lt_of_lt_of_le hk h0.size) a b).trans (h0.block k hk))⟩
theorem Two.above {p q B : Nat} {w w' : World} (h : Two p q w w') (hp : p < B) (hq : q < B) : Above B w w' :=
  ⟨h.size, fun k h1 h2 => h.block k h2 (by omega) (by omega)⟩

/-- A panic that is no fault. -/
def Odd (e : Ending) : Prop := ∃ t x older, e = .panicked ({ v := .iface t x, recovered := false } :: older) ∧ (t = 25 ∧ x = .int .i64 350 ∨ t = 8) ∧ older.dropWhile (!·.goexit) = []
abbrev flt0 (k m : Int) : Value := .agg #[.int .u8 k, .int .i64 m]
def CatR (K M : Int) (e : Ending) : Prop :=
  (K = 0 ∧ M = 0 ∧ e = .returned (.tuple #[flt0 0 0, .bool false, .int .i64 0])) ∨
  ((1 ≤ K ∧ K ≤ 2) ∧ e = .returned (.tuple #[flt0 K M, .bool true, .int .i64 0])) ∨ (K = 9 ∧ M = 0 ∧ Odd e)
def TryR (K M : Int) (e : Ending) : Prop :=
  (K = 0 ∧ M = 0 ∧ e = .returned (.tuple #[.int .i64 5, flt0 0 0, .bool false, .int .i64 0])) ∨
  ((1 ≤ K ∧ K ≤ 2) ∧ e = .returned (.tuple #[.int .i64 0, flt0 K M, .bool true, .int .i64 0])) ∨ (K = 9 ∧ M = 0 ∧ Odd e)
def After (T : Rs) (f : Int) (p q : Nat) (w w' : World) : Prop := meterAt w' p f T.1 T.2.1 ∧ w'.heap[q]? = some (.cells #[.int .i64 T.2.2.1] 3 (0, 0)) ∧ Two p q w w'

theorem catch55 {w : World} {B p q bm bs : Nat} {f l u d : Int} {xs : List Stp} {sv : Value} (h : Rdy w B p q f l u d xs sv)
    (hm : w.heap[bm]? = some (.cells #[.pointer (some ⟨p, 0, none⟩)] 56 (0, 0))) (hs : w.heap[bs]? = some (.cells #[sv] 43 (0, 0))) :
    Calls Try.prog 13 #[.func (.func 55) #[] #[.pointer (some ⟨bm, 0, none⟩), .pointer (some ⟨bs, 0, none⟩), .pointer (some ⟨q, 0, none⟩)]] w fun e w' =>
      CatR (run f l u d xs).2.2.2.1 (run f l u d xs).2.2.2.2 e ∧ After (run f l u d xs) f p q w w' := by
  obtain ⟨T, hT⟩ : ∃ T, T = run f l u d xs := ⟨_, rfl⟩
  rw [← hT]
  have lp := lt_of_block h.meter
  have lq := lt_of_block h.box
  refine catch_calls ent55 (fun w0 hb => (f55_is (h.next hb) (carry hb hm) (carry hb hs)).mono ?_)
  rw [← hT]
  rintro e w1 ⟨he, ha, hbx, ht⟩
  refine ⟨ht.above lp lq, ?_⟩
  have hw : ∀ w2, Below w.heap.size w1 w2 → After T f p q w w2 := fun w2 h2 => ⟨(h2.block p lp).trans ha, (h2.block q lq).trans hbx, Two.wide hb ht h2⟩
  rcases he with ⟨k0, m0, rfl⟩ | ⟨k1, k2, older, rfl, ho⟩ | ⟨k9, m0, t, x, older, rfl, htx, ho⟩
  · exact ⟨_, .ret, fun w2 h2 => ⟨.inl ⟨k0, m0, rfl⟩, hw w2 h2⟩⟩
  · exact ⟨_, .fault _ _ older k1 k2 ho, fun w2 h2 => ⟨.inr (.inl ⟨⟨k1, k2⟩, rfl⟩), hw w2 h2⟩⟩
  · refine ⟨_, .other t x older (by rcases htx with ⟨rfl, _⟩ | rfl <;> decide), fun w2 h2 => ⟨.inr (.inr ⟨k9, m0, t, x, _, rfl, htx, ?_⟩), hw w2 h2⟩⟩
    simpa using ho

theorem try58 {w : World} {B p q bm bs : Nat} {f l u d : Int} {xs : List Stp} {sv : Value} (h : Rdy w B p q f l u d xs sv)
    (hm : w.heap[bm]? = some (.cells #[.pointer (some ⟨p, 0, none⟩)] 56 (0, 0))) (hs : w.heap[bs]? = some (.cells #[sv] 43 (0, 0))) :
    Calls Try.prog 57 #[.func (.func 58) #[] #[.pointer (some ⟨bm, 0, none⟩), .pointer (some ⟨bs, 0, none⟩), .pointer (some ⟨q, 0, none⟩)]] w fun e w' =>
      TryR (run f l u d xs).2.2.2.1 (run f l u d xs).2.2.2.2 e ∧ After (run f l u d xs) f p q w w' := by
  obtain ⟨T, hT⟩ : ∃ T, T = run f l u d xs := ⟨_, rfl⟩
  rw [← hT]
  have lp := lt_of_block h.meter
  have lq := lt_of_block h.box
  refine try_int ent58 (fun w0 hb => (f58_is (h.next hb) (carry hb hm) (carry hb hs)).mono ?_)
  rw [← hT]
  rintro e w1 ⟨e0, ⟨he, ha, hbx, ht⟩, hee⟩
  have hw : ∀ w2, Below w.heap.size w1 w2 → After T f p q w w2 := fun w2 h2 => ⟨(h2.block p lp).trans ha, (h2.block q lq).trans hbx, Two.wide hb ht h2⟩
  rcases he with ⟨k0, m0, rfl⟩ | ⟨k1, k2, older, rfl, ho⟩ | ⟨k9, m0, t, x, older, rfl, htx, ho⟩
  · rcases hee with ⟨_, rfl⟩ | ⟨rfl, c, hc⟩
    · exact ⟨ht.above lp lq, fun v hv => ⟨5, by cases hv; rfl⟩, _, .ret _, fun w2 h2 => ⟨.inl ⟨k0, m0, rfl⟩, hw w2 h2⟩⟩
    · cases hc
  · rcases hee with ⟨hc, _⟩ | ⟨rfl, c, hc⟩
    · cases hc
    · exact ⟨ht.above lp lq, (fun v hv => by cases hv), _, .fault _ _ older k1 k2 ho, fun w2 h2 => ⟨.inr (.inl ⟨⟨k1, k2⟩, rfl⟩), hw w2 h2⟩⟩
  · rcases hee with ⟨hc, _⟩ | ⟨rfl, c, hc⟩
    · cases hc
    · refine ⟨ht.above lp lq, (fun v hv => by cases hv), _, .other t x older (by rcases htx with ⟨rfl, _⟩ | rfl <;> decide), fun w2 h2 => ⟨.inr (.inr ⟨k9, m0, t, x, _, rfl, htx, ?_⟩), hw w2 h2⟩⟩
      simpa using ho

/-- Blocks but p and lo .. hi stay. -/
structure Fr (p lo hi : Nat) (w w' : World) : Prop where
  os : w'.os = w.os
  tape : w'.tape = w.tape
  output : w'.output = w.output
  size : w.heap.size ≤ w'.heap.size
  block : ∀ k, k < w.heap.size → k ≠ p → (k < lo ∨ hi ≤ k) → w'.heap[k]? = w.heap[k]?
theorem Two.fr {p q lo hi : Nat} {w w' : World} (h : Two p q w w') (h1 : lo ≤ q) (h2 : q < hi) : Fr p lo hi w w' :=
  ⟨h.os, h.tape, h.output, h.size, fun k a b c => h.block k a b (by omega)⟩
theorem Fr.set {p lo hi b off : Nat} {w w' : World} (h : Fr p lo hi w w') (h1 : lo ≤ b) (h2 : b < hi) (v : Value) : Fr p lo hi w (w'.setCell ⟨b, off, none⟩ v) :=
  ⟨h.os, h.tape, h.output, by simpa using h.size, fun k a b c => (heap_setCell_ne (by omega)).trans (h.block k a b c)⟩

def CloE (K : Int) (e : Ending) : Prop := (0 ≤ K ∧ K ≤ 2 ∧ e = .returned (.tuple #[])) ∨ (K = 9 ∧ Odd e)
/-- What runs$1 leaves in its boxes. -/
structure Clo (T : Rs) (i : Int) (f : Int) (p q : Nat) (w w' : World) : Prop where
  meter : meterAt w' p f T.1 T.2.1
  done : w'.heap[q]? = some (.cells #[.int .i64 T.2.2.1] 3 (0, 0))
  x : w'.heap[q + 1]? = some (.cells #[.int .u8 (if 1 ≤ T.2.2.2.1 ∧ T.2.2.2.1 ≤ 2 then T.2.2.2.1 else 0), .int .i64 (if 1 ≤ T.2.2.2.1 ∧ T.2.2.2.1 ≤ 2 then T.2.2.2.2 else 0)] 23 (0, 0))
  is : w'.heap[q + 2]? = some (.cells #[.bool (decide (1 ≤ T.2.2.2.1 ∧ T.2.2.2.1 ≤ 2))] 4 (0, 0))
  er : w'.heap[q + 3]? = some (.cells #[.int .i64 0] 25 (0, 0))
  value : w'.heap[q + 4]? = some (.cells #[.int .i64 (if i % 2 = 1 ∧ T.2.2.2.1 = 0 then 5 else 0)] 3 (0, 0))
  fr : Fr p q (q + 5) w w'

theorem clo_mk {T : Rs} {i f : Int} {p q : Nat} {w w1 : World} {k m v : Int} {b : Bool} (hpq : p < q) (A : meterAt w1 p f T.1 T.2.1) (D : w1.heap[q]? = some (.cells #[.int .i64 T.2.2.1] 3 (0, 0))) (F : Fr p q (q + 5) w w1)
    (X : w1.heap[q + 1]? = some (.cells #[.int .u8 0, .int .i64 0] 23 (0, 0))) (I : w1.heap[q + 2]? = some (.cells #[.bool false] 4 (0, 0))) (E : w1.heap[q + 3]? = some (.cells #[.int .i64 0] 25 (0, 0))) (V : w1.heap[q + 4]? = some (.cells #[.int .i64 v] 3 (0, 0)))
    (hk : k = if 1 ≤ T.2.2.2.1 ∧ T.2.2.2.1 ≤ 2 then T.2.2.2.1 else 0) (hm : m = if 1 ≤ T.2.2.2.1 ∧ T.2.2.2.1 ≤ 2 then T.2.2.2.2 else 0) (hb : b = decide (1 ≤ T.2.2.2.1 ∧ T.2.2.2.1 ≤ 2)) (hv : v = if i % 2 = 1 ∧ T.2.2.2.1 = 0 then 5 else 0) :
    Clo T i f p q w ((((w1.setCell ⟨q + 1, 0, none⟩ (.int .u8 k)).setCell ⟨q + 1, 1, none⟩ (.int .i64 m)).setCell ⟨q + 2, 0, none⟩ (.bool b)).setCell ⟨q + 3, 0, none⟩ (.int .i64 0)) := by
  have kp : ∀ {j : Nat} {o : Obj}, j ≠ q + 1 → j ≠ q + 2 → j ≠ q + 3 → w1.heap[j]? = some o → ((((w1.setCell ⟨q + 1, 0, none⟩ (.int .u8 k)).setCell ⟨q + 1, 1, none⟩ (.int .i64 m)).setCell ⟨q + 2, 0, none⟩ (.bool b)).setCell ⟨q + 3, 0, none⟩ (.int .i64 0)).heap[j]? = some o :=
    fun a1 a2 a3 ho => (heap_setCell_ne a3).trans ((heap_setCell_ne a2).trans ((heap_setCell_ne a1).trans ((heap_setCell_ne a1).trans ho)))
  refine ⟨kp (by omega) (by omega) (by omega) A, kp (by omega) (by omega) (by omega) D, ?_, ?_, ?_, ?_, (((F.set (by omega) (by omega) _).set (by omega) (by omega) _).set (by omega) (by omega) _).set (by omega) (by omega) _⟩
  · rw [← hk, ← hm]
    refine (heap_setCell_ne (by omega)).trans ((heap_setCell_ne (by omega)).trans ?_)
    rw [heap_setCell_at (heap_setCell_at X)]; rfl
  · rw [← hb]
    refine (heap_setCell_ne (by omega)).trans ?_
    rw [heap_setCell_at (((heap_setCell_ne (by omega)).trans ((heap_setCell_ne (by omega)).trans I)))]; rfl
  · rw [heap_setCell_at ((heap_setCell_ne (by omega)).trans ((heap_setCell_ne (by omega)).trans ((heap_setCell_ne (by omega)).trans E)))]; rfl
  · rw [← hv]
    exact kp (by omega) (by omega) (by omega) V
theorem clo_odd {T : Rs} {i f : Int} {p q : Nat} {w w1 : World} (h9 : T.2.2.2.1 = 9) (hm : T.2.2.2.2 = 0) (A : meterAt w1 p f T.1 T.2.1) (D : w1.heap[q]? = some (.cells #[.int .i64 T.2.2.1] 3 (0, 0))) (F : Fr p q (q + 5) w w1)
    (X : w1.heap[q + 1]? = some (.cells #[.int .u8 0, .int .i64 0] 23 (0, 0))) (I : w1.heap[q + 2]? = some (.cells #[.bool false] 4 (0, 0))) (E : w1.heap[q + 3]? = some (.cells #[.int .i64 0] 25 (0, 0))) (V : w1.heap[q + 4]? = some (.cells #[.int .i64 0] 3 (0, 0))) :
    Clo T i f p q w w1 := by
  refine ⟨A, D, ?_, ?_, E, ?_, F⟩
  · simpa [h9] using X
  · simpa [h9] using I
  · simpa [h9] using V

set_option maxHeartbeats 2000000 in
theorem f54_is {w : World} {B p q bi bm bs : Nat} {f l u d i : Int} {xs : List Stp} {sv : Value} (h : Rdy w B p q f l u d xs sv) (i0 : 0 ≤ i) (i1 : i ≤ 1000)
    (hi : w.heap[bi]? = some (.cells #[.int .i64 i] 3 (0, 0))) (hm : w.heap[bm]? = some (.cells #[.pointer (some ⟨p, 0, none⟩)] 56 (0, 0))) (hs : w.heap[bs]? = some (.cells #[sv] 43 (0, 0)))
    (hx : w.heap[q + 1]? = some (.cells #[.int .u8 0, .int .i64 0] 23 (0, 0))) (his : w.heap[q + 2]? = some (.cells #[.bool false] 4 (0, 0))) (hf : w.heap[q + 3]? = some (.cells #[.int .i64 0] 25 (0, 0))) (hv : w.heap[q + 4]? = some (.cells #[.int .i64 0] 3 (0, 0))) (hpq : p < q) :
    Calls Try.prog 54 #[.pointer (some ⟨bi, 0, none⟩), .pointer (some ⟨bm, 0, none⟩), .pointer (some ⟨bs, 0, none⟩), .pointer (some ⟨q, 0, none⟩), .pointer (some ⟨q + 1, 0, none⟩), .pointer (some ⟨q + 2, 0, none⟩), .pointer (some ⟨q + 3, 0, none⟩), .pointer (some ⟨q + 4, 0, none⟩)] w
      fun e w' => CloE (run f l u d xs).2.2.2.1 e ∧ Clo (run f l u d xs) i f p q w w' := by
  have HC := Lib.hid (catch55 h hm hs)
  have HT := Lib.hid (try58 h hm hs)
  obtain ⟨T, hT⟩ : ∃ T, T = run f l u d xs := ⟨_, rfl⟩
  rw [← hT] at HC HT ⊢
  obtain ⟨c0, _⟩ := cell_one hi
  have HX := Lib.hid hx; have HIS := Lib.hid his; have HF := Lib.hid hf; have HV := Lib.hid hv
  clear hT hi hm hs hx his hf hv h
  by_cases h2 : i % 2 = 0
  · go_enter Try.func54, Try.ntmps54
    go_wp2_with fail
    refine HC.out.mono ?_
    rintro e w1 ⟨he, ha⟩
    have A1 := Lib.hid ha.1; have D1 := Lib.hid ha.2.1; have T1 := Lib.hid ha.2.2
    have X1 := Lib.hid ((T1.out.block (q + 1) (lt_of_block HX.out) (by omega) (by omega)).trans HX.out)
    have I1 := Lib.hid ((T1.out.block (q + 2) (lt_of_block HIS.out) (by omega) (by omega)).trans HIS.out)
    have F1 := Lib.hid ((T1.out.block (q + 3) (lt_of_block HF.out) (by omega) (by omega)).trans HF.out)
    have V1 := Lib.hid ((T1.out.block (q + 4) (lt_of_block HV.out) (by omega) (by omega)).trans HV.out)
    obtain ⟨x0, x1, x2, x3⟩ := cell_two X1.out
    obtain ⟨y0, y1⟩ := cell_one I1.out
    obtain ⟨z0, z1⟩ := cell_one F1.out
    clear ha
    rcases he with ⟨k0, m0, rfl⟩ | ⟨hk, rfl⟩ | ⟨k9, m0, t, x, older, rfl, htx, ho⟩
    · have HK := Lib.hid k0; have HM0 := Lib.hid m0
      clear k0 m0
      dsimp only
      go_wp2_with fail
      refine bodyPost_ret (v := .tuple #[]) (by simp [results, Try.results54, go_sem]) rfl ?_
      refine ⟨.inl ⟨by have := HK.out; omega, by have := HK.out; omega, rfl⟩, clo_mk hpq A1.out D1.out (T1.out.fr (Nat.le_refl _) (by omega)) X1.out I1.out F1.out V1.out ?_ ?_ ?_ ?_⟩ <;> simp [HK.out] <;> omega
    · have HK := Lib.hid hk
      clear hk
      dsimp only
      go_wp2_with fail
      refine bodyPost_ret (v := .tuple #[]) (by simp [results, Try.results54, go_sem]) rfl ?_
      refine ⟨.inl ⟨by have := HK.out; omega, by have := HK.out; omega, rfl⟩, clo_mk hpq A1.out D1.out (T1.out.fr (Nat.le_refl _) (by omega)) X1.out I1.out F1.out V1.out ?_ ?_ ?_ ?_⟩ <;> simp [HK.out] <;> (try rw [if_neg]) <;> have := HK.out <;> omega
    · exact ⟨rfl, .inr ⟨k9, t, x, older, rfl, htx, ho⟩, clo_odd k9 m0 A1.out D1.out (T1.out.fr (Nat.le_refl _) (by omega)) X1.out I1.out F1.out V1.out⟩
  · have h3 : i % 2 = 1 := by omega
    clear h2
    go_enter Try.func54, Try.ntmps54
    go_wp2_with fail
    refine HT.out.mono ?_
    rintro e w1 ⟨he, ha⟩
    have A1 := Lib.hid ha.1; have D1 := Lib.hid ha.2.1; have T1 := Lib.hid ha.2.2
    have X1 := Lib.hid ((T1.out.block (q + 1) (lt_of_block HX.out) (by omega) (by omega)).trans HX.out)
    have I1 := Lib.hid ((T1.out.block (q + 2) (lt_of_block HIS.out) (by omega) (by omega)).trans HIS.out)
    have F1 := Lib.hid ((T1.out.block (q + 3) (lt_of_block HF.out) (by omega) (by omega)).trans HF.out)
    have V1 := Lib.hid ((T1.out.block (q + 4) (lt_of_block HV.out) (by omega) (by omega)).trans HV.out)
    obtain ⟨x0, x1, x2, x3⟩ := cell_two X1.out
    obtain ⟨y0, y1⟩ := cell_one I1.out
    obtain ⟨z0, z1⟩ := cell_one F1.out
    obtain ⟨v0, v1⟩ := cell_one V1.out
    clear ha
    rcases he with ⟨k0, m0, rfl⟩ | ⟨hk, rfl⟩ | ⟨k9, m0, t, x, older, rfl, htx, ho⟩
    · have HK := Lib.hid k0; have HM0 := Lib.hid m0
      clear k0 m0
      dsimp only
      go_wp2_with fail
      go_end0
      refine ⟨.inl ⟨by have := HK.out; omega, by have := HK.out; omega, rfl⟩, clo_mk hpq ((heap_setCell_ne (by omega)).trans A1.out) ((heap_setCell_ne (by omega)).trans D1.out) ((T1.out.fr (Nat.le_refl _) (by omega)).set (by omega) (by omega) _) ((heap_setCell_ne (by omega)).trans X1.out) ((heap_setCell_ne (by omega)).trans I1.out) ((heap_setCell_ne (by omega)).trans F1.out) (box_set V1.out) ?_ ?_ ?_ ?_⟩ <;> simp [HK.out] <;> omega
    · have HK := Lib.hid hk
      clear hk
      dsimp only
      go_wp2_with fail
      go_end0
      refine ⟨.inl ⟨by have := HK.out; omega, by have := HK.out; omega, rfl⟩, clo_mk hpq ((heap_setCell_ne (by omega)).trans A1.out) ((heap_setCell_ne (by omega)).trans D1.out) ((T1.out.fr (Nat.le_refl _) (by omega)).set (by omega) (by omega) _) ((heap_setCell_ne (by omega)).trans X1.out) ((heap_setCell_ne (by omega)).trans I1.out) ((heap_setCell_ne (by omega)).trans F1.out) (box_set V1.out) ?_ ?_ ?_ ?_⟩ <;> simp [HK.out] <;> (try rw [if_neg]) <;> have := HK.out <;> omega
    · exact ⟨rfl, .inr ⟨k9, t, x, older, rfl, htx, ho⟩, clo_odd k9 m0 A1.out D1.out (T1.out.fr (Nat.le_refl _) (by omega)) X1.out I1.out F1.out V1.out⟩
end Go.Proofs.Ytpjccbbemhjgbaa
