import Derived.Test.YtpjccbbemhjgbaaA
namespace Go.Proofs.Ytpjccbbemhjgbaa
open Go.RowKit

/-- What becomes of the end of a function in 'caught': its results. -/
inductive Caught : Ending → Ending → Prop
  | ret : Caught (.returned (.tuple #[])) (.returned (.tuple #[.agg #[.int .u8 0, .int .i64 0], .bool false]))
  | fault (k m : Int) (older : List PanicEntry) (hk : 1 ≤ k) (hk2 : k ≤ 2) (ho : older.dropWhile (!·.goexit) = []) :
      Caught (.panicked ({ v := .iface 23 (.agg #[.int .u8 k, .int .i64 m]), recovered := false } :: older)) (.returned (.tuple #[.agg #[.int .u8 k, .int .i64 m], .bool true]))
  | bad (k m : Int) (older : List PanicEntry) (hk : k < 1 ∨ 2 < k) :
      Caught (.panicked ({ v := .iface 23 (.agg #[.int .u8 k, .int .i64 m]), recovered := false } :: older))
        (.panicked ({ v := .iface 23 (.agg #[.int .u8 k, .int .i64 m]), recovered := false } :: { v := .iface 23 (.agg #[.int .u8 k, .int .i64 m]), recovered := true } :: older))
  | other (t : TypeId) (x : Value) (older : List PanicEntry) (ht : t ≠ 23) :
      Caught (.panicked ({ v := .iface t x, recovered := false } :: older)) (.panicked ({ v := .iface t x, recovered := false } :: { v := .iface t x, recovered := true } :: older))

theorem size_le_below {B : Nat} {w w' : World} (h : Below B w w') : w.heap.size ≤ w'.heap.size := h.size

/-- The entry of a function with a body. -/
def Ent (g : FuncId) : Prop := ∀ (cap : Array Value) (w : World), (callFunc g cap).run Try.prog w = .ok (.enter g cap) w

theorem caught_calls {g : FuncId} (hg : Ent g) {cap : Array Value} {w : World} {R : Ending → World → Prop}
    (h : ∀ w0, Below w.heap.size w w0 → Calls Try.prog g cap w0 fun e w1 => Above w.heap.size w0 w1 ∧ ∃ e2, Caught e e2 ∧ ∀ w2, Below w.heap.size w1 w2 → R e2 w2) :
    Calls Try.prog 42 #[.func (.func g) #[] cap] w R := by
  have hmf : ∀ (fn : Fn) (first cap : Array Value) (w : World), (Instr.makeFunc fn first cap).run Try.prog w = .ok (.func fn first cap) w := fun _ _ _ _ => rfl
  have hcf := hg cap
  have h0 := h ((w.alloc (Obj.cells #[Value.int IntKind.u8 0, Value.int IntKind.i64 0] 23)).alloc
        (Obj.cells #[Value.bool false] 4)) (((Below.refl _ _).alloc (Nat.le_refl _) _).alloc (by simp) _)
  have hb0 : ((w.alloc (Obj.cells #[Value.int IntKind.u8 0, Value.int IntKind.i64 0] 23)).alloc
        (Obj.cells #[Value.bool false] 4)).heap[w.heap.size]? = some (.cells #[.int .u8 0, .int .i64 0] 23) := by
    rw [heap_alloc_lt (by simp)]; exact (MapKept.heap_alloc _ _).1
  have hb1 : ((w.alloc (Obj.cells #[Value.int IntKind.u8 0, Value.int IntKind.i64 0] 23)).alloc
        (Obj.cells #[Value.bool false] 4)).heap[w.heap.size + 1]? = some (.cells #[.bool false] 4) := by
    have := (MapKept.heap_alloc (w.alloc (Obj.cells #[Value.int IntKind.u8 0, Value.int IntKind.i64 0] 23)) (Obj.cells #[Value.bool false] 4)).1
    simpa using this
  have hs0 : ((w.alloc (Obj.cells #[Value.int IntKind.u8 0, Value.int IntKind.i64 0] 23)).alloc
        (Obj.cells #[Value.bool false] 4)).heap.size = w.heap.size + 2 := by simp
  have H0 := Lib.hid hb0; have H1 := Lib.hid hb1; have HS := Lib.hid hs0; clear hb0 hb1 hs0 h
  go_enter_defers Try.func42, Try.ntmps42
  go_wp2_with fail
  go_simp
  refine h0.mono ?_
  rintro e w1 ⟨ha, e2, hc, hR⟩
  have hB := (ha.block w.heap.size (Nat.le_refl _) (by rw [HS.out]; omega)).trans H0.out
  have hC := (ha.block (w.heap.size + 1) (by omega) (by rw [HS.out]; omega)).trans H1.out
  have H2 := Lib.hid hB; have H3 := Lib.hid hC
  obtain ⟨c0, c1, f0, f1⟩ := cell_two hB
  obtain ⟨c2, f2⟩ := cell_one hC
  clear h0 H0 H1 HS ha hB hC
  cases hc with
  | ret =>
    have HR := Lib.hid hR; clear hR
    dsimp only
    go_wp2_with fail
    go_tidy
    refine leaves_cons (f := 60) (by simp) (by simp [go_sem]; rfl) ?_
    refine (catch_idle _ _ _).mono ?_
    rintro e u' w'' ⟨rfl, rfl, rfl⟩
    simp [Leaves, settle, results, Try.results42, go_sem, c0, c1, c2]
    exact HR.out _ (Below.refl _ _)
  | fault k m older hk hk2 ho =>
    have HR := Lib.hid hR; clear hR
    dsimp only
    go_wp2_with fail
    go_tidy
    refine leaves_cons (f := 60) (by simp) (by simp [go_sem]; rfl) ?_
    refine (catch_fault _ _ _ hk hk2 _ _ _ _ H2.out H3.out).mono ?_
    rintro e u' w'' ⟨rfl, rfl, hB, hC, hb⟩
    obtain ⟨c0, c1, f0, f1⟩ := cell_two hB
    obtain ⟨c2, f2⟩ := cell_one hC
    simp [Leaves, settle, ho, results, Try.results42, go_sem, c0, c1, c2]
    exact HR.out _ hb
  | bad k m older hk =>
    have HR := Lib.hid hR; clear hR
    dsimp only
    go_wp2_with fail
    go_tidy
    refine leaves_cons (f := 60) (by simp) (by simp [go_sem]; rfl) ?_
    refine (catch_bad _ _ _ hk _ _ _ _ H2.out H3.out).mono ?_
    rintro e u' w'' ⟨rfl, rfl, hb⟩
    simp [Leaves, raised]
    exact HR.out _ hb
  | other t x older ht =>
    have HR := Lib.hid hR; clear hR
    dsimp only
    go_wp2_with fail
    go_tidy
    refine leaves_cons (f := 60) (by simp) (by simp [go_sem]; rfl) ?_
    refine (catch_other _ _ ht _ _ _ _ _ H2.out H3.out).mono ?_
    rintro e u' w'' ⟨rfl, rfl, hb⟩
    simp [Leaves, raised]
    exact HR.out _ hb

/-- What becomes of the end of a function in 'Catch'. -/
inductive CatchE : Ending → Ending → Prop
  | ret : CatchE (.returned (.tuple #[])) (.returned (.tuple #[.agg #[.int .u8 0, .int .i64 0], .bool false, .int .i64 0]))
  | fault (k m : Int) (older : List PanicEntry) (hk : 1 ≤ k) (hk2 : k ≤ 2) (ho : older.dropWhile (!·.goexit) = []) :
      CatchE (.panicked ({ v := .iface 23 (.agg #[.int .u8 k, .int .i64 m]), recovered := false } :: older)) (.returned (.tuple #[.agg #[.int .u8 k, .int .i64 m], .bool true, .int .i64 0]))
  | bad (k m : Int) (older : List PanicEntry) (hk : k < 1 ∨ 2 < k) :
      CatchE (.panicked ({ v := .iface 23 (.agg #[.int .u8 k, .int .i64 m]), recovered := false } :: older))
        (.panicked ({ v := .iface 23 (.agg #[.int .u8 k, .int .i64 m]), recovered := false } :: { v := .iface 23 (.agg #[.int .u8 k, .int .i64 m]), recovered := true } :: older))
  | other (t : TypeId) (x : Value) (older : List PanicEntry) (ht : t ≠ 23) :
      CatchE (.panicked ({ v := .iface t x, recovered := false } :: older)) (.panicked ({ v := .iface t x, recovered := false } :: { v := .iface t x, recovered := true } :: older))

theorem catch_calls {g : FuncId} (hg : Ent g) {cap : Array Value} {w : World} {R : Ending → World → Prop}
    (h : ∀ w0, Below w.heap.size w w0 → Calls Try.prog g cap w0 fun e w1 => Above w.heap.size w0 w1 ∧ ∃ e2, CatchE e e2 ∧ ∀ w2, Below w.heap.size w1 w2 → R e2 w2) :
    Calls Try.prog 13 #[.func (.func g) #[] cap] w R := by
  have hn : ∀ w : World, (binOp BinOp.eql 1 (.func (.func g) #[] cap) .nilFunc).run Try.prog w = .ok (.bool false) w := fun _ => by kernel_rfl
  have H := Lib.hid h; clear h
  go_enter Try.func13, Try.ntmps13
  go_wp2_with fail
  refine (caught_calls hg (R := fun e w2 => match e with
     | .returned v => ∃ k m : Int, ∃ b : Bool, v = .tuple #[.agg #[.int .u8 k, .int .i64 m], .bool b] ∧ Above w.heap.size (w.alloc (.cells #[.int .u8 0, .int .i64 0] 23)) w2 ∧ ∀ w3, Below w.heap.size w2 w3 → R (.returned (.tuple #[.agg #[.int .u8 k, .int .i64 m], .bool b, .int .i64 0])) w3
     | .panicked c => R (.panicked c) w2
     | .outgrown => False) ?_).mono ?_
  · clear hn
    intro w0 hb0
    have hb1 : Below w.heap.size w w0 := ((Below.refl _ _).alloc (Nat.le_refl _) _).trans (hb0.mono (by simp))
    refine (H.out w0 hb1).mono ?_
    rintro e w1 ⟨ha, e2, hc, hR⟩
    refine ⟨⟨ha.size, fun k hk => ha.block k (by simp at hk; omega)⟩, ?_⟩
    have hab : ∀ w2, Below (w.alloc (.cells #[.int .u8 0, .int .i64 0] 23)).heap.size w1 w2 → Above w.heap.size (w.alloc (.cells #[.int .u8 0, .int .i64 0] 23)) w2 := fun w2 hb => ⟨by have := hb0.size; have := ha.size; have := hb.size; omega, fun k h1 h2 => by
      rw [hb.block k h2, ha.block k h1 (Nat.lt_of_lt_of_le h2 hb0.size), hb0.block k h2]⟩
    have hlt : w.heap.size ≤ (w.alloc (.cells #[.int .u8 0, .int .i64 0] 23)).heap.size := by simp
    cases hc with
    | ret => exact ⟨_, .ret, fun w2 hb => ⟨0, 0, false, rfl, hab w2 hb, fun w3 hb3 => hR w3 ((hb.mono hlt).trans hb3)⟩⟩
    | fault k m older hk hk2 ho => exact ⟨_, .fault k m older hk hk2 ho, fun w2 hb => ⟨k, m, true, rfl, hab w2 hb, fun w3 hb3 => hR w3 ((hb.mono hlt).trans hb3)⟩⟩
    | bad k m older hk => exact ⟨_, .bad k m older hk, fun w2 hb => hR w2 (hb.mono hlt)⟩
    | other t x older ht => exact ⟨_, .other t x older ht, fun w2 hb => hR w2 (hb.mono hlt)⟩
  · rintro e w2 hR
    cases e with
    | returned v =>
      obtain ⟨k, m, b, rfl, ha, hR⟩ := hR
      have hB : w2.heap[w.heap.size]? = some (.cells #[.int .u8 0, .int .i64 0] 23) := (ha.block _ (Nat.le_refl _) (by simp)).trans (MapKept.heap_alloc _ _).1
      have hs : w.heap.size < w2.heap.size := lt_of_block hB
      generalize w.heap.size = B at *
      obtain ⟨c0, c1, f0, f1⟩ := cell_two hB
      have HR := Lib.hid hR
      have HB := Lib.hid hB
      have l0 := lt_of_block hB
      have ca := fun o off => cell_alloc_lt (o := o) (off := off) l0
      have fa := fun o off => frozen_alloc_lt (o := o) (off := off) l0
      clear hR hB ha
      dsimp only
      go_wp2_with fail
      have hE : (((w2.setCell { block := B, off := 0 } (Value.int IntKind.u8 k)).setCell { block := B, off := 1 } (Value.int IntKind.i64 m)).alloc (Obj.cells #[Value.int IntKind.u8 k, Value.int IntKind.i64 m] 23)).heap[B]? = some (.cells #[.int .u8 k, .int .i64 m] 23) := by
        rw [heap_alloc_lt (by simpa using l0), heap_setCell_at (heap_setCell_at HB.out)]; rfl
      obtain ⟨d0, d1, _, _⟩ := cell_two hE
      exact bodyPost_ret (v := .tuple #[.agg #[.int .u8 k, .int .i64 m], .bool b, .int .i64 0]) (by simp [results, Try.results13, go_sem, d0, d1]) rfl
        (HR.out _ (ballo (bset (bset (Below.refl _ _) (Nat.le_refl _) _) (Nat.le_refl _) _) (by simp; omega) _))
    | panicked c => exact ⟨rfl, hR⟩
    | outgrown => exact hR.elim

/-! ### outside -/
theorem outside_idle (p : Nat) (x : Value) (w : World) (hB : w.heap[p]? = some (.cells #[x] 20)) :
    CallsD Try.prog 41 #[.pointer (some ⟨p, 0, none⟩)] .returning w fun e u' w' => e = .returned (.tuple #[]) ∧ u' = .returning ∧ w'.heap[p]? = some (.cells #[.nilIface] 20) ∧ Below p w w' := by
  obtain ⟨c0, f0⟩ := cell_one hB
  have H0 := Lib.hid hB; clear hB
  refine callsD_of_wpS Try.func41 rfl fun c₀ cs hu => ?_
  simp only [Try.ntmps41, List.size_toArray, List.length_cons, List.length_nil, Nat.reduceAdd, Nat.reduceSub, Array.replicate_succ,
     Array.replicate_zero, List.push_toArray, List.append_toArray, List.nil_append, List.cons_append]
  apply wpS_region
  simp [wpOpsS, go_sem, recoverD_idle hu, c0, f0, bodyPostS, results, Try.results41]
  refine ⟨.returning, ?_, rfl, ?_, ?_⟩
  · cases c₀; simp_all
  · rw [heap_setCell_at H0.out]; rfl
  · exact bset (Below.refl _ _) (Nat.le_refl _) _

set_option maxRecDepth 20000 in
theorem outside_panic (p : Nat) (x : Value) (t : TypeId) (v : Value) (older : List PanicEntry) (w : World) (hB : w.heap[p]? = some (.cells #[x] 20)) :
    CallsD Try.prog 41 #[.pointer (some ⟨p, 0, none⟩)] (.panicking ({ v := .iface t v, recovered := false } :: older)) w fun e u' w' => e = .returned (.tuple #[]) ∧ u' = .panicking ({ v := .iface t v, recovered := true } :: older) ∧ w'.heap[p]? = some (.cells #[.iface t v] 20) ∧ Below p w w' := by
  obtain ⟨c0, f0⟩ := cell_one hB
  have H0 := Lib.hid hB; clear hB
  refine callsD_of_wpS Try.func41 rfl fun c₀ cs hu => ?_
  simp only [Try.ntmps41, List.size_toArray, List.length_cons, List.length_nil, Nat.reduceAdd, Nat.reduceSub, Array.replicate_succ,
     Array.replicate_zero, List.push_toArray, List.append_toArray, List.nil_append, List.cons_append]
  apply wpS_region
  simp [wpOpsS, go_sem, recoverD_panic hu, c0, f0, bodyPostS, results, Try.results41]
  refine ⟨?_, ?_⟩
  · rw [heap_setCell_at H0.out]; rfl
  · exact bset (Below.refl _ _) (Nat.le_refl _) _

/-- What 'outside' returns for the end of a function. -/
inductive Outs : Ending → Value → Prop
  | ret : Outs (.returned (.tuple #[])) .nilIface
  | panic (t : TypeId) (x : Value) (older : List PanicEntry) (ho : older.dropWhile (!·.goexit) = []) : Outs (.panicked ({ v := .iface t x, recovered := false } :: older)) (.iface t x)

theorem outside_calls {g : FuncId} (hg : Ent g) {cap : Array Value} {w : World} {R : Ending → World → Prop}
    (h : ∀ w0, Below w.heap.size w w0 → Calls Try.prog g cap w0 fun e w1 => Above w.heap.size w0 w1 ∧ ∃ v, Outs e v ∧ ∀ w2, Below w.heap.size w1 w2 → R (.returned v) w2) :
    Calls Try.prog 11 #[.func (.func g) #[] cap] w R := by
  have hmf : ∀ (fn : Fn) (first cap : Array Value) (w : World), (Instr.makeFunc fn first cap).run Try.prog w = .ok (.func fn first cap) w := fun _ _ _ _ => rfl
  have hcf := hg cap
  have h0 := h (w.alloc (Obj.cells #[Value.nilIface] 20)) (ballo (Below.refl _ _) (Nat.le_refl _) _)
  have hb0 : (w.alloc (Obj.cells #[Value.nilIface] 20)).heap[w.heap.size]? = some (.cells #[.nilIface] 20) := (MapKept.heap_alloc _ _).1
  have hs0 : (w.alloc (Obj.cells #[Value.nilIface] 20)).heap.size = w.heap.size + 1 := by simp
  have H0 := Lib.hid hb0; have HS := Lib.hid hs0; clear hb0 hs0 h
  go_enter_defers Try.func11, Try.ntmps11
  go_wp2_with fail
  go_simp
  refine h0.mono ?_
  rintro e w1 ⟨ha, v, hc, hR⟩
  have hB := (ha.block w.heap.size (Nat.le_refl _) (by rw [HS.out]; omega)).trans H0.out
  have H2 := Lib.hid hB
  obtain ⟨c0, f0⟩ := cell_one hB
  clear h0 H0 HS ha hB
  have HR := Lib.hid hR; clear hR
  cases hc with
  | ret =>
    dsimp only
    go_wp2_with fail
    go_tidy
    refine leaves_cons (f := 41) (by simp) (by simp [go_sem]; rfl) ?_
    refine (outside_idle _ .nilIface _ (by rw [heap_setCell_at H2.out]; rfl)).mono ?_
    rintro e u' w'' ⟨rfl, rfl, hB, hb⟩
    obtain ⟨c0, f0⟩ := cell_one hB
    simp [Leaves, settle, results, Try.results11, go_sem, c0]
    exact HR.out _ ((bset (Below.refl _ _) (Nat.le_refl _) _).trans hb)
  | panic t x older ho =>
    dsimp only
    go_wp2_with fail
    go_tidy
    refine leaves_cons (f := 41) (by simp) (by simp [go_sem]; rfl) ?_
    refine (outside_panic _ _ _ _ _ _ H2.out).mono ?_
    rintro e u' w'' ⟨rfl, rfl, hB, hb⟩
    obtain ⟨c0, f0⟩ := cell_one hB
    simp [Leaves, settle, ho, results, Try.results11, go_sem, c0]
    exact HR.out _ hb
end Go.Proofs.Ytpjccbbemhjgbaa
