import Derived.Test.YtpjccbbemhjgbaaE
namespace Go.Proofs.Ytpjccbbemhjgbaa
open Go.RowKit

theorem babove {B : Nat} {w w' : World} (h : Below w.heap.size w w') : Above B w w' := ⟨h.size, fun k _ h2 => h.block k h2⟩
theorem bnext {a w w' : World} (h : Below a.heap.size a w) (h2 : Below w.heap.size w w') : Below a.heap.size a w' := h.trans (h2.mono h.size)
theorem balloc {a w : World} (h : Below a.heap.size a w) (o : Obj) : Below a.heap.size a (w.alloc o) := h.alloc h.size o

/-- 'Catch' of a function that throws a fault and changes nothing that was there. -/
theorem catch_thrown {g : FuncId} (hg : Ent g) {cap : Array Value} {w : World} (k m : Int) (hk : 1 ≤ k) (hk2 : k ≤ 2)
    (h : ∀ w0, Below w.heap.size w w0 → Calls Try.prog g cap w0 fun e w1 => (∃ older : List PanicEntry, e = .panicked ({ v := .iface 23 (.agg #[.int .u8 k, .int .i64 m]), recovered := false } :: older) ∧ older.dropWhile (!·.goexit) = []) ∧ Below w0.heap.size w0 w1) :
    Calls Try.prog 13 #[.func (.func g) #[] cap] w fun e w' => e = .returned (.tuple #[.agg #[.int .u8 k, .int .i64 m], .bool true, .int .i64 0]) ∧ Below w.heap.size w w' :=
  catch_calls hg fun w0 hb => (h w0 hb).mono fun e w1 ⟨⟨older, he, ho⟩, hb1⟩ => ⟨babove hb1, by
    subst he
    exact ⟨_, .fault k m older hk hk2 ho, fun w2 hb2 => ⟨rfl, (hb.trans (hb1.mono hb.size)).trans hb2⟩⟩⟩

theorem outside_thrown {g : FuncId} (hg : Ent g) {cap : Array Value} {w : World} (t : TypeId) (X : Value → Prop)
    (h : ∀ w0, Below w.heap.size w w0 → Calls Try.prog g cap w0 fun e w1 => (∃ x, ∃ older : List PanicEntry, e = .panicked ({ v := .iface t x, recovered := false } :: older) ∧ X x ∧ older.dropWhile (!·.goexit) = []) ∧ Below w0.heap.size w0 w1) :
    Calls Try.prog 11 #[.func (.func g) #[] cap] w fun e w' => (∃ x, X x ∧ e = .returned (.iface t x)) ∧ Below w.heap.size w w' :=
  outside_calls hg fun w0 hb => (h w0 hb).mono fun e w1 ⟨⟨x, older, he, hX, ho⟩, hb1⟩ => ⟨babove hb1, by
    subst he
    exact ⟨_, .panic t x older ho, fun w2 hb2 => ⟨⟨x, hX, rfl⟩, (hb.trans (hb1.mono hb.size)).trans hb2⟩⟩⟩

theorem ent44 : Ent 44 := fun _ _ => by kernel_rfl
theorem ent45 : Ent 45 := fun _ _ => by kernel_rfl
theorem ent46 : Ent 46 := fun _ _ => by kernel_rfl
theorem ent47 : Ent 47 := fun _ _ => by kernel_rfl
theorem ent48 : Ent 48 := fun _ _ => by kernel_rfl
theorem ent49 : Ent 49 := fun _ _ => by kernel_rfl
theorem ent50 : Ent 50 := fun _ _ => by kernel_rfl

theorem f44_throws (p b : Nat) (w : World) (hp : w.heap[p]? = some (.cells #[.pointer (some ⟨b, 0, none⟩)] 56)) (hm : meterAt w b 5 0 5) :
    Calls Try.prog 44 #[.pointer (some ⟨p, 0, none⟩)] w fun e w' => e = .panicked [{ v := .iface 23 (.agg #[.int .u8 1, .int .i64 1]), recovered := false }] ∧ w = w' := by
  obtain ⟨c0, f0⟩ := cell_one hp
  have HM := Lib.hid hm
  clear hp hm
  go_enter Try.func44, Try.ntmps44
  go_wp2_with (go_at_call 31; refine (use_much _ _ _ _ _ _ HM.out (by decide) (by decide)).mono ?_; rintro e w' ⟨rfl, rfl⟩)
  exact ⟨rfl, rfl, rfl⟩

theorem f46_throws (p b : Nat) (w : World) (hp : w.heap[p]? = some (.cells #[.pointer (some ⟨b, 0, none⟩)] 56)) (hm : meterAt w b 5 0 5) :
    Calls Try.prog 46 #[.pointer (some ⟨p, 0, none⟩)] w fun e w' => e = .panicked [{ v := .iface 23 (.agg #[.int .u8 1, .int .i64 1]), recovered := false }] ∧ w = w' := by
  obtain ⟨c0, f0⟩ := cell_one hp
  have HM := Lib.hid hm
  clear hp hm
  go_enter Try.func46, Try.ntmps46
  go_wp2_with (go_at_call 31; refine (use_much _ _ _ _ _ _ HM.out (by decide) (by decide)).mono ?_; rintro e w' ⟨rfl, rfl⟩)
  exact ⟨rfl, rfl, rfl⟩

theorem f45_throws (w : World) :
    Calls Try.prog 45 #[] w fun e w' => e = .panicked [{ v := .iface 23 (.agg #[.int .u8 2, .int .i64 3]), recovered := false }] ∧ w = w' := by
  go_enter Try.func45, Try.ntmps45
  go_wp2_with (go_at_call 29; refine (fits_no _ _ (by decide) (by decide) _).mono ?_; rintro e w' ⟨rfl, rfl⟩)
  exact ⟨rfl, rfl, rfl⟩

theorem f47_much (k m : Int) (w : World) :
    Calls Try.prog 47 #[.agg #[.int .u8 k, .int .i64 m]] w fun e w' => e = .returned (.int .i64 m) ∧ Below w.heap.size w w' := by
  go_enter Try.func47, Try.ntmps47
  go_wp2_with fail
  go_ret
  exact ⟨rfl, ballo (Below.refl _ _) (Nat.le_refl _) _⟩

theorem f50_throws (w : World) :
    Calls Try.prog 50 #[] w fun e w' => (∃ x, e = .panicked [{ v := .iface 8 x, recovered := false }]) ∧ Below w.heap.size w w' := by
  go_enter Try.func50, Try.ntmps50
  go_wp2_with fail
  refine (boom_any _ _).mono ?_
  rintro e w' ⟨x, rfl, hw⟩
  refine ⟨rfl, ⟨x, rfl⟩, ?_⟩
  rcases hw with rfl | rfl
  · exact Below.refl _ _
  · exact (Below.refl _ _).drew

theorem f49_throws (w : World) :
    Calls Try.prog 49 #[] w fun e w' => (∃ x, e = .panicked [{ v := .iface 8 x, recovered := false }, { v := .iface 8 x, recovered := true }]) ∧ Below w.heap.size w w' := by
  go_enter Try.func49, Try.ntmps49
  go_wp2_with fail
  refine (catch_calls ent50 (R := fun e w' => (∃ x, e = .panicked [{ v := .iface 8 x, recovered := false }, { v := .iface 8 x, recovered := true }]) ∧ Below w.heap.size w w') ?_).mono ?_
  · intro w0 hb
    refine (f50_throws w0).mono ?_
    rintro e w1 ⟨⟨x, rfl⟩, hb1⟩
    exact ⟨babove hb1, _, .other 8 x [] (by decide), fun w2 hb2 => ⟨⟨x, rfl⟩, (hb.trans (hb1.mono hb.size)).trans hb2⟩⟩
  · rintro e w' ⟨⟨x, rfl⟩, hb⟩
    exact ⟨rfl, ⟨x, rfl⟩, hb⟩

theorem f48_throws (p q r b : Nat) (w : World) (hq : w.heap[q]? = some (.cells #[.func (.func 46) #[] #[.pointer (some ⟨p, 0, none⟩)]] 48)) (hr : w.heap[r]? = some (.cells #[.func (.func 47) #[] #[]] 49))
    (hp : w.heap[p]? = some (.cells #[.pointer (some ⟨b, 0, none⟩)] 56)) (hm : meterAt w b 5 0 5) :
    Calls Try.prog 48 #[.pointer (some ⟨q, 0, none⟩), .pointer (some ⟨r, 0, none⟩)] w fun e w' => e = .panicked [{ v := .iface 23 (.agg #[.int .u8 1, .int .i64 1]), recovered := false }] ∧ Below w.heap.size w w' := by
  obtain ⟨c0, f0⟩ := cell_one hq
  obtain ⟨c1, f1⟩ := cell_one hr
  have HM := Lib.hid hm; have HP := Lib.hid hp
  have lp := lt_of_block hp; have lm := lt_of_block hm
  clear hp hm hq hr
  go_enter Try.func48, Try.ntmps48
  go_wp2_with fail
  refine (or_int ent46 ent47 2 (by decide) (by decide) (R := fun e w' => e = .panicked [{ v := .iface 23 (.agg #[.int .u8 1, .int .i64 1]), recovered := false }] ∧ Below w.heap.size w w') ?_).mono ?_
  · intro w0 hb
    refine (f46_throws p b w0 ((hb.block _ lp).trans HP.out) ((hb.block _ lm).trans HM.out)).mono ?_
    rintro e w1 ⟨rfl, rfl⟩
    exact ⟨⟨Nat.le_refl _, fun _ _ _ => rfl⟩, (fun v h => by cases h), .diff 1 1 [] (by decide) (by decide) (by decide) rfl fun w3 hb3 => ⟨rfl, hb.trans hb3⟩⟩
  · rintro e w' ⟨rfl, hb⟩
    exact ⟨rfl, rfl, hb⟩
end Go.Proofs.Ytpjccbbemhjgbaa
