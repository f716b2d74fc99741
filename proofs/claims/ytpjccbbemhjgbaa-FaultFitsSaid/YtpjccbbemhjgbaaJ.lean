import Derived.Test.YtpjccbbemhjgbaaG
namespace Go.Proofs.Ytpjccbbemhjgbaa
open Go.RowKit

theorem ent35 : Ent 35 := fun _ _ => by kernel_rfl
theorem nwk' {w : World} {o : Obj} {k : Nat} (h : w.heap.size = k) : (w.alloc o).heap[k]? = some o := by subst h; exact nw

theorem f35_ret (p q : Nat) (s : ByteArray) (m : Int) (hs : s.size ≤ 3000) (h : m < 0 ∨ (s.size : Int) ≤ m) (w : World) (hp : w.heap[p]? = some (.cells #[.string s] 9)) (hq : w.heap[q]? = some (.cells #[.int .i64 m] 3)) :
    Calls Try.prog 35 #[.pointer (some ⟨p, 0, none⟩), .pointer (some ⟨q, 0, none⟩)] w fun e w' => e = .returned (.string s) ∧ w = w' := by
  obtain ⟨c0, f0⟩ := cell_one hp
  obtain ⟨c1, f1⟩ := cell_one hq
  have H := Lib.hid h
  clear hp hq h
  go_enter Try.func35, Try.ntmps35
  go_wp2_with (go_at_call 29; refine (fits_ok _ _ (by omega) H.out _).mono ?_; rintro e w' ⟨rfl, rfl⟩)
  go_ret
  exact ⟨rfl, rfl⟩

theorem f35_throws (p q : Nat) (s : ByteArray) (m : Int) (hs : s.size ≤ 3000) (h : 0 ≤ m ∧ m < (s.size : Int)) (w : World) (hp : w.heap[p]? = some (.cells #[.string s] 9)) (hq : w.heap[q]? = some (.cells #[.int .i64 m] 3)) :
    Calls Try.prog 35 #[.pointer (some ⟨p, 0, none⟩), .pointer (some ⟨q, 0, none⟩)] w fun e w' => e = .panicked [{ v := .iface 23 (.agg #[.int .u8 2, .int .i64 s.size]), recovered := false }] ∧ w = w' := by
  obtain ⟨c0, f0⟩ := cell_one hp
  obtain ⟨c1, f1⟩ := cell_one hq
  have H := Lib.hid h
  clear hp hq h
  go_enter Try.func35, Try.ntmps35
  go_wp2_with (go_at_call 29; refine (fits_no _ _ (by omega) (.inl H.out) _).mono ?_; rintro e w' ⟨rfl, rfl⟩)
  exact ⟨rfl, rfl, rfl⟩

theorem fits_long (s : ByteArray) (m : Int) (hs : 3000 < s.size) (hl : s.size ≤ 9223372036854775807) (w : World) :
    Calls Try.prog 7 #[.string s, .int .i64 m] w fun e w' => e = .returned (.bool true) ∧ Below w.heap.size w w' := by
  go_enter Try.func7, Try.ntmps7
  go_wp2_with fail
  refine (awake_true _).mono ?_
  rintro e w2 ⟨rfl, hb2⟩
  have HB2 := Lib.hid (bnext (balloc (balloc (Below.refl _ w) _) _) hb2)
  clear hb2
  dsimp only
  go_wp2_with fail
  go_ret
  exact ⟨rfl, HB2.out⟩

theorem fits_fits (s : ByteArray) (m : Int) (hs : s.size ≤ 3000) (h : m < 0 ∨ (s.size : Int) ≤ m) (w : World) :
    Calls Try.prog 7 #[.string s, .int .i64 m] w fun e w' => e = .returned (.bool true) ∧ Below w.heap.size w w' := by
  have hmf : ∀ (fn : Fn) (first cap : Array Value) (w : World), (Instr.makeFunc fn first cap).run Try.prog w = .ok (.func fn first cap) w := fun _ _ _ _ => rfl
  have hd : (decide (0 ≤ m) && decide (m < (s.size : Int))) = false := by simp; omega
  have H := Lib.hid h
  have T := try_string ent35 (cap := #[.pointer (some ⟨w.heap.size, 0, none⟩), .pointer (some ⟨w.heap.size + 1, 0, none⟩)]) (w := (w.alloc (.cells #[.string s] 9)).alloc (.cells #[.int .i64 m] 3))
    (R := fun e w' => e = .returned (.tuple #[.string s, .agg #[.int .u8 0, .int .i64 0], .bool false, .int .i64 0]) ∧ Below ((w.alloc (.cells #[.string s] 9)).alloc (.cells #[.int .i64 m] 3)).heap.size ((w.alloc (.cells #[.string s] 9)).alloc (.cells #[.int .i64 m] 3)) w') (fun w0 hb =>
      (f35_ret _ _ s m hs h w0 (carry hb (al nw)) (carry hb (nwk' (by simp)))).mono (by
        rintro e w1 ⟨rfl, rfl⟩
        exact ⟨babove (Below.refl _ _), fun v hv => ⟨s, by cases hv; rfl⟩, _, .ret _, fun w2 hb2 => ⟨rfl, hb.trans hb2⟩⟩))
  have HT := Lib.hid T
  clear h T
  go_enter Try.func7, Try.ntmps7
  go_wp2_with fail
  refine HT.out.mono ?_
  rintro e w1 ⟨rfl, hb1⟩
  obtain ⟨c0, f0⟩ := cell_one (carry hb1 (al nw))
  obtain ⟨c1, f1⟩ := cell_one (carry hb1 (nwk' (k := w.heap.size + 1) (by simp)))
  have HB1 := Lib.hid (bnext (balloc (balloc (Below.refl _ w) _) _) hb1)
  have hz := hb1.size
  have l0 : w.heap.size < w1.heap.size := by simp at hz; omega
  have l1 : w.heap.size + 1 < w1.heap.size := by simp at hz; omega
  have ca := fun o off => cell_alloc_lt (o := o) (off := off) l0
  have ca' := fun o off => cell_alloc_lt (o := o) (off := off) l1
  clear hb1 HT hz hmf
  dsimp only
  go_wp2_with fail
  all_goals first
    | (exfalso; have h := H.out; omega)
    | (refine (awake_true _).mono ?_
       rintro e w2 ⟨rfl, hb2⟩
       have HB2 := Lib.hid (bnext (balloc HB1.out _) hb2)
       clear hb2
       dsimp only
       go_wp2_with fail
       go_ret
       exact ⟨rfl, HB2.out⟩)
theorem fits_throws (s : ByteArray) (m : Int) (hs : s.size ≤ 3000) (h : 0 ≤ m ∧ m < (s.size : Int)) (w : World) :
    Calls Try.prog 7 #[.string s, .int .i64 m] w fun e w' => e = .returned (.bool true) ∧ Below w.heap.size w w' := by
  have hmf : ∀ (fn : Fn) (first cap : Array Value) (w : World), (Instr.makeFunc fn first cap).run Try.prog w = .ok (.func fn first cap) w := fun _ _ _ _ => rfl
  have H := Lib.hid h
  have T := try_string ent35 (cap := #[.pointer (some ⟨w.heap.size, 0, none⟩), .pointer (some ⟨w.heap.size + 1, 0, none⟩)]) (w := (w.alloc (.cells #[.string s] 9)).alloc (.cells #[.int .i64 m] 3))
    (R := fun e w' => e = .returned (.tuple #[.string ⟨#[]⟩, .agg #[.int .u8 2, .int .i64 s.size], .bool true, .int .i64 0]) ∧ Below ((w.alloc (.cells #[.string s] 9)).alloc (.cells #[.int .i64 m] 3)).heap.size ((w.alloc (.cells #[.string s] 9)).alloc (.cells #[.int .i64 m] 3)) w') (fun w0 hb =>
      (f35_throws _ _ s m hs h w0 (carry hb (al nw)) (carry hb (nwk' (by simp)))).mono (by
        rintro e w1 ⟨rfl, rfl⟩
        exact ⟨babove (Below.refl _ _), (fun v hv => by cases hv), _, .fault _ _ [] (by decide) (by decide) rfl, fun w2 hb2 => ⟨rfl, hb.trans hb2⟩⟩))
  have HT := Lib.hid T
  obtain ⟨h0, h1⟩ := h
  clear T
  go_enter Try.func7, Try.ntmps7
  go_wp2_with fail
  refine HT.out.mono ?_
  rintro e w1 ⟨rfl, hb1⟩
  obtain ⟨c0, f0⟩ := cell_one (carry hb1 (al nw))
  obtain ⟨c1, f1⟩ := cell_one (carry hb1 (nwk' (k := w.heap.size + 1) (by simp)))
  have HB1 := Lib.hid (bnext (balloc (balloc (Below.refl _ w) _) _) hb1)
  have hz := hb1.size
  have l0 : w.heap.size < w1.heap.size := by simp at hz; omega
  have l1 : w.heap.size + 1 < w1.heap.size := by simp at hz; omega
  have ca := fun o off => cell_alloc_lt (o := o) (off := off) l0
  have ca' := fun o off => cell_alloc_lt (o := o) (off := off) l1
  clear hb1 HT hz hmf
  dsimp only
  go_wp2_with fail
  all_goals first
    | (exfalso; have h := H.out; omega)
    | (refine (awake_true _).mono ?_
       rintro e w2 ⟨rfl, hb2⟩
       have HB2 := Lib.hid (bnext (balloc HB1.out _) hb2)
       clear hb2
       dsimp only
       go_wp2_with fail
       go_ret
       exact ⟨rfl, HB2.out⟩)
end Go.Proofs.Ytpjccbbemhjgbaa
