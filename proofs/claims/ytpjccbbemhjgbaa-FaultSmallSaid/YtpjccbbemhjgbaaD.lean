import Derived.Test.YtpjccbbemhjgbaaC
namespace Go.Proofs.Ytpjccbbemhjgbaa
open Go.RowKit

/-- What becomes of the end of a function in 'Try'. -/
inductive TryE (z : Value) : Ending → Ending → Prop
  | ret (v : Value) : TryE z (.returned v) (.returned (.tuple #[v, .agg #[.int .u8 0, .int .i64 0], .bool false, .int .i64 0]))
  | fault (k m : Int) (older : List PanicEntry) (hk : 1 ≤ k) (hk2 : k ≤ 2) (ho : older.dropWhile (!·.goexit) = []) :
      TryE z (.panicked ({ v := .iface 23 (.agg #[.int .u8 k, .int .i64 m]), recovered := false } :: older)) (.returned (.tuple #[z, .agg #[.int .u8 k, .int .i64 m], .bool true, .int .i64 0]))
  | bad (k m : Int) (older : List PanicEntry) (hk : k < 1 ∨ 2 < k) :
      TryE z (.panicked ({ v := .iface 23 (.agg #[.int .u8 k, .int .i64 m]), recovered := false } :: older))
        (.panicked ({ v := .iface 23 (.agg #[.int .u8 k, .int .i64 m]), recovered := false } :: { v := .iface 23 (.agg #[.int .u8 k, .int .i64 m]), recovered := true } :: older))
  | other (t : TypeId) (x : Value) (older : List PanicEntry) (ht : t ≠ 23) :
      TryE z (.panicked ({ v := .iface t x, recovered := false } :: older)) (.panicked ({ v := .iface t x, recovered := false } :: { v := .iface t x, recovered := true } :: older))

theorem ent62 : Ent 62 := fun _ _ => by kernel_rfl

theorem try1_int {g : FuncId} (hg : Ent g) {cap : Array Value} {w : World} {B C : Nat} {z : Value} {R : Ending → World → Prop}
    (hB : w.heap[B]? = some (.cells #[.func (.func g) #[] cap] 48))
    (h : Calls Try.prog g cap w fun e w1 => match e with
      | .returned v => w1.heap[C]? = some (.cells #[z] 3) ∧ (∃ n : Int, v = .int .i64 n) ∧ ∀ w2, w2 = w1.setCell ⟨C, 0, none⟩ v → R (.returned (.tuple #[])) w2
      | .panicked c => R (.panicked c) w1
      | .outgrown => False) :
    Calls Try.prog 62 #[.pointer (some ⟨B, 0, none⟩), .pointer (some ⟨C, 0, none⟩)] w R := by
  obtain ⟨c0, f0⟩ := cell_one hB
  have hcf := hg cap
  have h0 := Lib.hid h
  clear hB h
  go_enter Try.func62, Try.ntmps62
  go_wp2_with fail
  go_simp
  refine h0.out.mono ?_
  rintro e w1 he
  cases e with
  | returned v =>
    obtain ⟨hC, ⟨n, rfl⟩, hR⟩ := he
    obtain ⟨d0, g0⟩ := cell_one hC
    have HR := Lib.hid (hR _ rfl)
    clear hC hR
    dsimp only
    go_wp2_with fail
    go_end0
    exact HR.out
  | panicked c => exact ⟨rfl, he⟩
  | outgrown => exact he.elim

theorem try_int {g : FuncId} (hg : Ent g) {cap : Array Value} {w : World} {R : Ending → World → Prop}
    (h : ∀ w0, Below w.heap.size w w0 → Calls Try.prog g cap w0 fun e w1 => Above w.heap.size w0 w1 ∧ (∀ v, e = .returned v → ∃ n : Int, v = .int .i64 n) ∧ ∃ e2, TryE (.int .i64 0) e e2 ∧ ∀ w2, Below w.heap.size w1 w2 → R e2 w2) :
    Calls Try.prog 57 #[.func (.func g) #[] cap] w R := by
  have hmf : ∀ (fn : Fn) (first cap : Array Value) (w : World), (Instr.makeFunc fn first cap).run Try.prog w = .ok (.func fn first cap) w := fun _ _ _ _ => rfl
  have hn : ∀ w : World, (binOp BinOp.eql 48 (.func (.func g) #[] cap) .nilFunc).run Try.prog w = .ok (.bool false) w := fun _ => by kernel_rfl
  have H := Lib.hid h; clear h
  obtain ⟨W, hW⟩ : ∃ W, ((w.alloc (.cells #[.func (.func g) #[] cap] 48)).alloc (.cells #[.int .u8 0, .int .i64 0] 23)).alloc (.cells #[(.int .i64 0)] 3) = W := ⟨_, rfl⟩
  have hS : W.heap.size = w.heap.size + 3 := by rw [← hW]; simp
  have hWB : Below w.heap.size w W := by rw [← hW]; exact ballo (ballo (ballo (Below.refl _ _) (Nat.le_refl _) _) (by simp <;> omega) _) (by simp <;> omega) _
  have hW0 : W.heap[w.heap.size]? = some (.cells #[.func (.func g) #[] cap] 48) := by
    rw [← hW, heap_alloc_lt (by simp <;> omega), heap_alloc_lt (by simp <;> omega)]; exact (MapKept.heap_alloc _ _).1
  have hW1 : W.heap[w.heap.size + 1]? = some (.cells #[.int .u8 0, .int .i64 0] 23) := by
    rw [← hW, heap_alloc_lt (by simp)]; have := (MapKept.heap_alloc (w.alloc (.cells #[.func (.func g) #[] cap] 48)) (.cells #[.int .u8 0, .int .i64 0] 23)).1; simpa using this
  have hW2 : W.heap[w.heap.size + 2]? = some (.cells #[(.int .i64 0)] 3) := by
    rw [← hW]; have := (MapKept.heap_alloc ((w.alloc (.cells #[.func (.func g) #[] cap] 48)).alloc (.cells #[.int .u8 0, .int .i64 0] 23)) (.cells #[(.int .i64 0)] 3)).1; simpa using this
  have HW := Lib.hid hW; have HS := Lib.hid hS; have HW0 := Lib.hid hW0; have HW1 := Lib.hid hW1; have HW2 := Lib.hid hW2; have HWB := Lib.hid hWB
  clear hW hS hW0 hW1 hW2 hWB
  go_enter Try.func57, Try.ntmps57
  go_wp2_with fail
  rw [HW.out]
  refine (caught_calls (g := 62) ent62 (R := fun e w2 => match e with
     | .returned v => w2.heap[w.heap.size + 1]? = some (.cells #[.int .u8 0, .int .i64 0] 23) ∧ ((∃ n : Int, v = .tuple #[.agg #[.int .u8 0, .int .i64 0], .bool false] ∧ w2.heap[w.heap.size + 2]? = some (.cells #[.int .i64 n] 3) ∧ ∀ w3, Below w.heap.size w2 w3 → R (.returned (.tuple #[.int .i64 n, .agg #[.int .u8 0, .int .i64 0], .bool false, .int .i64 0])) w3) ∨
        (∃ k m : Int, v = .tuple #[.agg #[.int .u8 k, .int .i64 m], .bool true] ∧ ∀ w3, Below w.heap.size w2 w3 → R (.returned (.tuple #[(.int .i64 0), .agg #[.int .u8 k, .int .i64 m], .bool true, .int .i64 0])) w3))
     | .panicked c => R (.panicked c) w2
     | .outgrown => False) ?_).mono ?_
  · clear hn
    intro w0 hb0
    rw [HS.out] at hb0 ⊢
    have hs0 := hb0.size
    rw [HS.out] at hs0
    refine try1_int hg (z := (.int .i64 0)) ((hb0.block _ (by omega)).trans HW0.out) ?_
    refine (H.out w0 (HWB.out.trans (hb0.mono (by omega)))).mono ?_
    rintro e w1 ⟨ha, hv, e2, hc, hR⟩
    have k1 : w1.heap[w.heap.size + 1]? = some (.cells #[.int .u8 0, .int .i64 0] 23) := (ha.block _ (by omega) (by omega)).trans ((hb0.block _ (by omega)).trans HW1.out)
    have k2 : w1.heap[w.heap.size + 2]? = some (.cells #[(.int .i64 0)] 3) := (ha.block _ (by omega) (by omega)).trans ((hb0.block _ (by omega)).trans HW2.out)
    have ab : ∀ w2 v, w2 = w1.setCell ⟨w.heap.size + 2, 0, none⟩ v → Above (w.heap.size + 3) w0 w2 := by
      rintro w2 v rfl
      exact ⟨by simpa using ha.size, fun k h1 h2 => by rw [heap_setCell_ne (by omega)]; exact ha.block k (by omega) h2⟩
    have ab' : Above (w.heap.size + 3) w0 w1 := ⟨ha.size, fun k h1 h2 => ha.block k (by omega) h2⟩
    cases hc with
    | ret v =>
      obtain ⟨n, rfl⟩ := hv v rfl
      refine ⟨k2, ⟨n, rfl⟩, fun w2 hw2 => ⟨ab _ _ hw2, _, .ret, fun w3 hb3 => ⟨?_, .inl ⟨n, rfl, ?_, fun w4 hb4 => ?_⟩⟩⟩⟩
      · rw [hb3.block _ (by omega), hw2, heap_setCell_ne (by omega)]; exact k1
      · rw [hb3.block _ (by omega), hw2, heap_setCell_at k2]; rfl
      · refine hR w4 (Below.trans ?_ hb4)
        subst hw2
        exact (bset (Below.refl _ _) (by omega) _).trans (hb3.mono (by omega))
    | fault k m older hk hk2 ho =>
      exact ⟨ab', _, .fault k m older hk hk2 ho, fun w3 hb3 => ⟨by rw [hb3.block _ (by omega)]; exact k1, .inr ⟨k, m, rfl, fun w4 hb4 => hR w4 ((hb3.mono (by omega)).trans hb4)⟩⟩⟩
    | bad k m older hk => exact ⟨ab', _, .bad k m older hk, fun w3 hb3 => hR w3 (hb3.mono (by omega))⟩
    | other t x older ht => exact ⟨ab', _, .other t x older ht, fun w3 hb3 => hR w3 (hb3.mono (by omega))⟩
  · rintro e w2 hR
    cases e with
    | returned v =>
      obtain ⟨hB, hR⟩ := hR
      have l0 := lt_of_block hB
      obtain ⟨c0, c1, f0, f1⟩ := cell_two hB
      have ca := fun o off => cell_alloc_lt (o := o) (off := off) l0
      have fa := fun o off => frozen_alloc_lt (o := o) (off := off) l0
      have HB := Lib.hid hB
      clear hB H HW HS HW0 HW1 HW2 HWB
      rcases hR with ⟨n, rfl, hC, hR⟩ | ⟨k, m, rfl, hR⟩
      · have l1 := lt_of_block hC
        obtain ⟨c2, f2⟩ := cell_one hC
        have ca' := fun o off => cell_alloc_lt (o := o) (off := off) l1
        have HR := Lib.hid hR; have HC := Lib.hid hC
        clear hR hC
        dsimp only
        go_wp2_with fail
        have hE : (((w2.setCell { block := w.heap.size + 1, off := 0 } (Value.int IntKind.u8 0)).setCell { block := w.heap.size + 1, off := 1 } (Value.int IntKind.i64 0)).alloc (Obj.cells #[Value.int IntKind.u8 0, Value.int IntKind.i64 0] 23)).heap[w.heap.size + 1]? = some (.cells #[.int .u8 0, .int .i64 0] 23) := by
          rw [heap_alloc_lt (by simpa using l0), heap_setCell_at (heap_setCell_at HB.out)]; rfl
        obtain ⟨d0, d1, _, _⟩ := cell_two hE
        exact bodyPost_ret (v := .tuple #[.int .i64 n, .agg #[.int .u8 0, .int .i64 0], .bool false, .int .i64 0]) (by simp [results, Try.results57, go_sem, d0, d1]) rfl
          (HR.out _ (ballo (bset (bset (Below.refl _ _) (by omega) _) (by omega) _) (by simp; omega) _))
      · have HR := Lib.hid hR
        clear hR
        dsimp only
        go_wp2_with fail
        go_region
        go_wp2_with fail
        have hE : (((w2.setCell { block := w.heap.size + 1, off := 0 } (Value.int IntKind.u8 k)).setCell { block := w.heap.size + 1, off := 1 } (Value.int IntKind.i64 m)).alloc (Obj.cells #[Value.int IntKind.u8 k, Value.int IntKind.i64 m] 23)).heap[w.heap.size + 1]? = some (.cells #[.int .u8 k, .int .i64 m] 23) := by
          rw [heap_alloc_lt (by simpa using l0), heap_setCell_at (heap_setCell_at HB.out)]; rfl
        obtain ⟨d0, d1, _, _⟩ := cell_two hE
        exact bodyPost_ret (v := .tuple #[(.int .i64 0), .agg #[.int .u8 k, .int .i64 m], .bool true, .int .i64 0]) (by simp [results, Try.results57, go_sem, d0, d1]) rfl
          (HR.out _ (ballo (bset (bset (Below.refl _ _) (by omega) _) (by omega) _) (by simp; omega) _).drew)
    | panicked c => exact ⟨rfl, hR⟩
    | outgrown => exact hR.elim

theorem ent51 : Ent 51 := fun _ _ => by kernel_rfl

theorem try1_string {g : FuncId} (hg : Ent g) {cap : Array Value} {w : World} {B C : Nat} {z : Value} {R : Ending → World → Prop}
    (hB : w.heap[B]? = some (.cells #[.func (.func g) #[] cap] 35))
    (h : Calls Try.prog g cap w fun e w1 => match e with
      | .returned v => w1.heap[C]? = some (.cells #[z] 9) ∧ (∃ n : ByteArray, v = .string n) ∧ ∀ w2, w2 = w1.setCell ⟨C, 0, none⟩ v → R (.returned (.tuple #[])) w2
      | .panicked c => R (.panicked c) w1
      | .outgrown => False) :
    Calls Try.prog 51 #[.pointer (some ⟨B, 0, none⟩), .pointer (some ⟨C, 0, none⟩)] w R := by
  obtain ⟨c0, f0⟩ := cell_one hB
  have hcf := hg cap
  have h0 := Lib.hid h
  clear hB h
  go_enter Try.func51, Try.ntmps51
  go_wp2_with fail
  go_simp
  refine h0.out.mono ?_
  rintro e w1 he
  cases e with
  | returned v =>
    obtain ⟨hC, ⟨n, rfl⟩, hR⟩ := he
    obtain ⟨d0, g0⟩ := cell_one hC
    have HR := Lib.hid (hR _ rfl)
    clear hC hR
    dsimp only
    go_wp2_with fail
    go_end0
    exact HR.out
  | panicked c => exact ⟨rfl, he⟩
  | outgrown => exact he.elim

theorem try_string {g : FuncId} (hg : Ent g) {cap : Array Value} {w : World} {R : Ending → World → Prop}
    (h : ∀ w0, Below w.heap.size w w0 → Calls Try.prog g cap w0 fun e w1 => Above w.heap.size w0 w1 ∧ (∀ v, e = .returned v → ∃ n : ByteArray, v = .string n) ∧ ∃ e2, TryE (.string ⟨#[]⟩) e e2 ∧ ∀ w2, Below w.heap.size w1 w2 → R e2 w2) :
    Calls Try.prog 20 #[.func (.func g) #[] cap] w R := by
  have hmf : ∀ (fn : Fn) (first cap : Array Value) (w : World), (Instr.makeFunc fn first cap).run Try.prog w = .ok (.func fn first cap) w := fun _ _ _ _ => rfl
  have hn : ∀ w : World, (binOp BinOp.eql 35 (.func (.func g) #[] cap) .nilFunc).run Try.prog w = .ok (.bool false) w := fun _ => by kernel_rfl
  have H := Lib.hid h; clear h
  obtain ⟨W, hW⟩ : ∃ W, ((w.alloc (.cells #[.func (.func g) #[] cap] 35)).alloc (.cells #[.int .u8 0, .int .i64 0] 23)).alloc (.cells #[(.string ⟨#[]⟩)] 9) = W := ⟨_, rfl⟩
  have hS : W.heap.size = w.heap.size + 3 := by rw [← hW]; simp
  have hWB : Below w.heap.size w W := by rw [← hW]; exact ballo (ballo (ballo (Below.refl _ _) (Nat.le_refl _) _) (by simp <;> omega) _) (by simp <;> omega) _
  have hW0 : W.heap[w.heap.size]? = some (.cells #[.func (.func g) #[] cap] 35) := by
    rw [← hW, heap_alloc_lt (by simp <;> omega), heap_alloc_lt (by simp <;> omega)]; exact (MapKept.heap_alloc _ _).1
  have hW1 : W.heap[w.heap.size + 1]? = some (.cells #[.int .u8 0, .int .i64 0] 23) := by
    rw [← hW, heap_alloc_lt (by simp)]; have := (MapKept.heap_alloc (w.alloc (.cells #[.func (.func g) #[] cap] 35)) (.cells #[.int .u8 0, .int .i64 0] 23)).1; simpa using this
  have hW2 : W.heap[w.heap.size + 2]? = some (.cells #[(.string ⟨#[]⟩)] 9) := by
    rw [← hW]; have := (MapKept.heap_alloc ((w.alloc (.cells #[.func (.func g) #[] cap] 35)).alloc (.cells #[.int .u8 0, .int .i64 0] 23)) (.cells #[(.string ⟨#[]⟩)] 9)).1; simpa using this
  have HW := Lib.hid hW; have HS := Lib.hid hS; have HW0 := Lib.hid hW0; have HW1 := Lib.hid hW1; have HW2 := Lib.hid hW2; have HWB := Lib.hid hWB
  clear hW hS hW0 hW1 hW2 hWB
  go_enter Try.func20, Try.ntmps20
  go_wp2_with fail
  rw [HW.out]
  refine (caught_calls (g := 51) ent51 (R := fun e w2 => match e with
     | .returned v => w2.heap[w.heap.size + 1]? = some (.cells #[.int .u8 0, .int .i64 0] 23) ∧ ((∃ n : ByteArray, v = .tuple #[.agg #[.int .u8 0, .int .i64 0], .bool false] ∧ w2.heap[w.heap.size + 2]? = some (.cells #[.string n] 9) ∧ ∀ w3, Below w.heap.size w2 w3 → R (.returned (.tuple #[.string n, .agg #[.int .u8 0, .int .i64 0], .bool false, .int .i64 0])) w3) ∨
        (∃ k m : Int, v = .tuple #[.agg #[.int .u8 k, .int .i64 m], .bool true] ∧ ∀ w3, Below w.heap.size w2 w3 → R (.returned (.tuple #[(.string ⟨#[]⟩), .agg #[.int .u8 k, .int .i64 m], .bool true, .int .i64 0])) w3))
     | .panicked c => R (.panicked c) w2
     | .outgrown => False) ?_).mono ?_
  · clear hn
    intro w0 hb0
    rw [HS.out] at hb0 ⊢
    have hs0 := hb0.size
    rw [HS.out] at hs0
    refine try1_string hg (z := (.string ⟨#[]⟩)) ((hb0.block _ (by omega)).trans HW0.out) ?_
    refine (H.out w0 (HWB.out.trans (hb0.mono (by omega)))).mono ?_
    rintro e w1 ⟨ha, hv, e2, hc, hR⟩
    have k1 : w1.heap[w.heap.size + 1]? = some (.cells #[.int .u8 0, .int .i64 0] 23) := (ha.block _ (by omega) (by omega)).trans ((hb0.block _ (by omega)).trans HW1.out)
    have k2 : w1.heap[w.heap.size + 2]? = some (.cells #[(.string ⟨#[]⟩)] 9) := (ha.block _ (by omega) (by omega)).trans ((hb0.block _ (by omega)).trans HW2.out)
    have ab : ∀ w2 v, w2 = w1.setCell ⟨w.heap.size + 2, 0, none⟩ v → Above (w.heap.size + 3) w0 w2 := by
      rintro w2 v rfl
      exact ⟨by simpa using ha.size, fun k h1 h2 => by rw [heap_setCell_ne (by omega)]; exact ha.block k (by omega) h2⟩
    have ab' : Above (w.heap.size + 3) w0 w1 := ⟨ha.size, fun k h1 h2 => ha.block k (by omega) h2⟩
    cases hc with
    | ret v =>
      obtain ⟨n, rfl⟩ := hv v rfl
      refine ⟨k2, ⟨n, rfl⟩, fun w2 hw2 => ⟨ab _ _ hw2, _, .ret, fun w3 hb3 => ⟨?_, .inl ⟨n, rfl, ?_, fun w4 hb4 => ?_⟩⟩⟩⟩
      · rw [hb3.block _ (by omega), hw2, heap_setCell_ne (by omega)]; exact k1
      · rw [hb3.block _ (by omega), hw2, heap_setCell_at k2]; rfl
      · refine hR w4 (Below.trans ?_ hb4)
        subst hw2
        exact (bset (Below.refl _ _) (by omega) _).trans (hb3.mono (by omega))
    | fault k m older hk hk2 ho =>
      exact ⟨ab', _, .fault k m older hk hk2 ho, fun w3 hb3 => ⟨by rw [hb3.block _ (by omega)]; exact k1, .inr ⟨k, m, rfl, fun w4 hb4 => hR w4 ((hb3.mono (by omega)).trans hb4)⟩⟩⟩
    | bad k m older hk => exact ⟨ab', _, .bad k m older hk, fun w3 hb3 => hR w3 (hb3.mono (by omega))⟩
    | other t x older ht => exact ⟨ab', _, .other t x older ht, fun w3 hb3 => hR w3 (hb3.mono (by omega))⟩
  · rintro e w2 hR
    cases e with
    | returned v =>
      obtain ⟨hB, hR⟩ := hR
      have l0 := lt_of_block hB
      obtain ⟨c0, c1, f0, f1⟩ := cell_two hB
      have ca := fun o off => cell_alloc_lt (o := o) (off := off) l0
      have fa := fun o off => frozen_alloc_lt (o := o) (off := off) l0
      have HB := Lib.hid hB
      clear hB H HW HS HW0 HW1 HW2 HWB
      rcases hR with ⟨n, rfl, hC, hR⟩ | ⟨k, m, rfl, hR⟩
      · have l1 := lt_of_block hC
        obtain ⟨c2, f2⟩ := cell_one hC
        have ca' := fun o off => cell_alloc_lt (o := o) (off := off) l1
        have HR := Lib.hid hR; have HC := Lib.hid hC
        clear hR hC
        dsimp only
        go_wp2_with fail
        have hE : (((w2.setCell { block := w.heap.size + 1, off := 0 } (Value.int IntKind.u8 0)).setCell { block := w.heap.size + 1, off := 1 } (Value.int IntKind.i64 0)).alloc (Obj.cells #[Value.int IntKind.u8 0, Value.int IntKind.i64 0] 23)).heap[w.heap.size + 1]? = some (.cells #[.int .u8 0, .int .i64 0] 23) := by
          rw [heap_alloc_lt (by simpa using l0), heap_setCell_at (heap_setCell_at HB.out)]; rfl
        obtain ⟨d0, d1, _, _⟩ := cell_two hE
        exact bodyPost_ret (v := .tuple #[.string n, .agg #[.int .u8 0, .int .i64 0], .bool false, .int .i64 0]) (by simp [results, Try.results20, go_sem, d0, d1]) rfl
          (HR.out _ (ballo (bset (bset (Below.refl _ _) (by omega) _) (by omega) _) (by simp; omega) _))
      · have HR := Lib.hid hR
        clear hR
        dsimp only
        go_wp2_with fail
        go_region
        go_wp2_with fail
        have hE : (((w2.setCell { block := w.heap.size + 1, off := 0 } (Value.int IntKind.u8 k)).setCell { block := w.heap.size + 1, off := 1 } (Value.int IntKind.i64 m)).alloc (Obj.cells #[Value.int IntKind.u8 k, Value.int IntKind.i64 m] 23)).heap[w.heap.size + 1]? = some (.cells #[.int .u8 k, .int .i64 m] 23) := by
          rw [heap_alloc_lt (by simpa using l0), heap_setCell_at (heap_setCell_at HB.out)]; rfl
        obtain ⟨d0, d1, _, _⟩ := cell_two hE
        exact bodyPost_ret (v := .tuple #[(.string ⟨#[]⟩), .agg #[.int .u8 k, .int .i64 m], .bool true, .int .i64 0]) (by simp [results, Try.results20, go_sem, d0, d1]) rfl
          (HR.out _ (ballo (bset (bset (Below.refl _ _) (by omega) _) (by omega) _) (by simp; omega) _).drew)
    | panicked c => exact ⟨rfl, hR⟩
    | outgrown => exact hR.elim
end Go.Proofs.Ytpjccbbemhjgbaa
