import Derived.Test.YtpjccbbemhjgbaaS
namespace Go.Proofs.Ytpjccbbemhjgbaa
open Go.RowKit
set_option linter.unusedVariables false

theorem Reads3.below {w w' : World} {sv : Value} {xs : List Stp} (h : Reads3 w sv xs) (hb : Below w.heap.size w w') : Reads3 w' sv xs := by
  obtain ⟨sa, c, rfl, hc⟩ := h
  refine ⟨sa, c, rfl, fun j x hj => ?_⟩
  obtain ⟨pb, po, rfl, h0, h1, h2⟩ := hc j x hj
  have hk := hb.block pb (World.block_lt_of_cell? _ _ h0)
  exact ⟨pb, po, rfl, (World.cell?_of_block hk).trans h0, (World.cell?_of_block hk).trans h1, (World.cell?_of_block hk).trans h2⟩

theorem Reads3.lo {w : World} {sv : Value} {xs : List Stp} (h : Reads3 w sv xs) : xs ≠ [] → ∀ sa n c, sv = .slice (some sa) n c → sa.block < w.heap.size := by
  obtain ⟨sa, c, rfl, hc⟩ := h
  intro hne sb n c' e
  obtain ⟨x, t, rfl⟩ := List.exists_cons_of_ne_nil hne
  obtain ⟨pb, po, rfl, h0, _⟩ := hc 0 x rfl
  simp only [Value.slice.injEq, Option.some.injEq] at e
  rw [← e.1]
  exact World.block_lt_of_cell? _ _ h0

structure Rdy (w : World) (B p q : Nat) (f l u d : Int) (xs : List Stp) (sv : Value) : Prop where
  wf : WfS xs
  len : xs.length ≤ 12
  rd : Reads3 w sv xs
  meter : meterAt w p f l u
  box : w.heap[q]? = some (.cells #[.int .i64 d] 3 (0, 0))
  lo : xs ≠ [] → ∀ sa n c, sv = .slice (some sa) n c → sa.block < B
  bp : B ≤ p
  bq : B ≤ q
  ne : p ≠ q
  l0 : 0 ≤ l
  l1 : l ≤ 1048576
  f0 : 0 ≤ f
  f1 : f ≤ 1048576
  u0 : 0 ≤ u
  u1 : u ≤ 1000000000
  d0 : 0 ≤ d
  d1 : d ≤ 1000
theorem Rdy.next {w w' : World} {B p q : Nat} {f l u d : Int} {xs : List Stp} {sv : Value} (h : Rdy w B p q f l u d xs sv) (hb : Below w.heap.size w w') : Rdy w' B p q f l u d xs sv :=
  ⟨h.wf, h.len, h.rd.below hb, carry hb h.meter, carry hb h.box, h.lo, h.bp, h.bq, h.ne, h.l0, h.l1, h.f0, h.f1, h.u0, h.u1, h.d0, h.d1⟩
theorem Rdy.does {w : World} {B p q : Nat} {f l u d : Int} {xs : List Stp} {sv : Value} (h : Rdy w B p q f l u d xs sv) :
    Calls Try.prog 56 #[.pointer (some ⟨p, 0, none⟩), sv, .pointer (some ⟨q, 0, none⟩)] w (DoPost (run f l u d xs) f p q w) :=
  do_is B p q f l u d xs h.wf h.len sv h.rd h.meter h.box h.lo h.bp h.bq h.ne h.l0 h.l1 h.f0 h.f1 h.u0 h.u1 h.d0 h.d1

theorem ent55 : Ent 55 := fun _ _ => by kernel_rfl
theorem ent58 : Ent 58 := fun _ _ => by kernel_rfl
theorem ent54 : Ent 54 := fun _ _ => by kernel_rfl

theorem f55_is {w : World} {B p q bm bs : Nat} {f l u d : Int} {xs : List Stp} {sv : Value} (h : Rdy w B p q f l u d xs sv)
    (hm : w.heap[bm]? = some (.cells #[.pointer (some ⟨p, 0, none⟩)] 56 (0, 0))) (hs : w.heap[bs]? = some (.cells #[sv] 43 (0, 0))) :
    Calls Try.prog 55 #[.pointer (some ⟨bm, 0, none⟩), .pointer (some ⟨bs, 0, none⟩), .pointer (some ⟨q, 0, none⟩)] w (DoPost (run f l u d xs) f p q w) := by
  obtain ⟨c0, _⟩ := cell_one hm
  obtain ⟨c1, _⟩ := cell_one hs
  obtain ⟨sa, c, rfl, hc⟩ := h.rd
  have H := Lib.hid h
  clear hm hs hc h
  go_enter Try.func55, Try.ntmps55
  go_wp2_with fail
  refine H.out.does.mono ?_
  rintro e w' hp
  have HP := Lib.hid hp
  rcases hp.1 with ⟨_, _, rfl⟩ | ⟨_, _, older, rfl, _⟩ | ⟨_, _, t, x, older, rfl, _, _⟩
  · clear hp
    dsimp only
    go_wp2_with fail
    go_end0
    exact HP.out
  · exact ⟨rfl, HP.out⟩
  · exact ⟨rfl, HP.out⟩

/-- .. of the one that returns 5. -/
def DoPost5 (T : Rs) (f : Int) (p q : Nat) (w : World) (e : Ending) (w' : World) : Prop :=
  ∃ e0, DoPost T f p q w e0 w' ∧ ((e0 = .returned (.tuple #[]) ∧ e = .returned (.int .i64 5)) ∨ (e0 = e ∧ ∃ c, e = .panicked c))
theorem f58_is {w : World} {B p q bm bs : Nat} {f l u d : Int} {xs : List Stp} {sv : Value} (h : Rdy w B p q f l u d xs sv)
    (hm : w.heap[bm]? = some (.cells #[.pointer (some ⟨p, 0, none⟩)] 56 (0, 0))) (hs : w.heap[bs]? = some (.cells #[sv] 43 (0, 0))) :
    Calls Try.prog 58 #[.pointer (some ⟨bm, 0, none⟩), .pointer (some ⟨bs, 0, none⟩), .pointer (some ⟨q, 0, none⟩)] w (DoPost5 (run f l u d xs) f p q w) := by
  obtain ⟨c0, _⟩ := cell_one hm
  obtain ⟨c1, _⟩ := cell_one hs
  obtain ⟨sa, c, rfl, hc⟩ := h.rd
  have H := Lib.hid h
  clear hm hs hc h
  go_enter Try.func58, Try.ntmps58
  go_wp2_with fail
  refine H.out.does.mono ?_
  rintro e w' hp
  have HP := Lib.hid hp
  rcases hp.1 with ⟨_, _, rfl⟩ | ⟨_, _, older, rfl, _⟩ | ⟨_, _, t, x, older, rfl, _, _⟩
  · clear hp
    dsimp only
    go_wp2_with fail
    go_ret
    exact ⟨_, HP.out, .inl ⟨rfl, rfl⟩⟩
  · exact ⟨rfl, _, HP.out, .inr ⟨rfl, _, rfl⟩⟩
  · exact ⟨rfl, _, HP.out, .inr ⟨rfl, _, rfl⟩⟩

/-! ### thrown -/
theorem thrown_nil (w : World) : Calls Try.prog 30 #[.nilIface] w fun e w' => e = .returned (.tuple #[.int .i64 0, .int .i64 0]) ∧ w = w' := by
  go_enter Try.func30, Try.ntmps30
  go_wp2_with fail
  go_ret2
  exact ⟨rfl, rfl⟩
theorem assert25 (v : Value) (w : World) : (Instr.typeAssert (.iface 25 v) 20 25 true).run Try.prog w = .ok (.tuple #[v, .bool true]) w := by kernel_rfl
theorem assert25_no (v : Value) (w : World) : (Instr.typeAssert (.iface 8 v) 20 25 true).run Try.prog w = .ok (.tuple #[.int .i64 0, .bool false]) w := by kernel_rfl
theorem ifnil (t : TypeId) (v : Value) (w : World) : (binOp BinOp.eql 20 (.iface t v) .nilIface).run Try.prog w = .ok (.bool false) w := by kernel_rfl
theorem thrown_kind (w : World) : Calls Try.prog 30 #[.iface 25 (.int .i64 350)] w fun e w' => e = .returned (.tuple #[.int .i64 9, .int .i64 0]) ∧ w = w' := by
  have h1 := fun w => assert_other 25 (by decide) (.int .i64 350) w
  have h2 := fun w => assert25 (.int .i64 350) w
  have h3 := fun w => ifnil 25 (.int .i64 350) w
  go_enter Try.func30, Try.ntmps30
  go_wp2_with fail
  go_ret2
  exact ⟨rfl, rfl⟩
theorem thrown_boom (x : Value) (w : World) : Calls Try.prog 30 #[.iface 8 x] w fun e w' => e = .returned (.tuple #[.int .i64 9, .int .i64 0]) ∧ w = w' := by
  have h1 := fun w => assert_other 8 (by decide) x w
  have h2 := fun w => assert25_no x w
  have h3 := fun w => ifnil 8 x w
  have h4 := fun w => assert_error8 x w
  go_enter Try.func30, Try.ntmps30
  go_wp2_with fail
  go_ret2
  exact ⟨rfl, rfl⟩
theorem thrown_fault (k m : Int) (k0 : 0 ≤ k) (k1 : k ≤ 255) (w : World) : Calls Try.prog 30 #[.iface 23 (.agg #[.int .u8 k, .int .i64 m])] w fun e w' => e = .returned (.tuple #[.int .i64 k, .int .i64 m]) ∧ Below w.heap.size w w' := by
  have h1 := fun w => assert_fault (.agg #[.int .u8 k, .int .i64 m]) w
  have h3 := fun w => ifnil 23 (.agg #[.int .u8 k, .int .i64 m]) w
  go_enter Try.func30, Try.ntmps30
  go_wp2_with fail
  go_region
  go_wp2_with fail
  go_ret2
  exact ⟨rfl, (balloc (Below.refl _ _) _).drew⟩
end Go.Proofs.Ytpjccbbemhjgbaa
