import Derived.Test.YtogdhmbdackeeaaR
namespace Go.Proofs.Ytogdhmbdackeeaa
open Go.RowKit
set_option linter.unusedVariables false

theorem Row.under {w w' : World} {R : Nat} {v : Value} {l : List Int} (h : Row w R v l) {row : Option Nat} (hg : w.grownBy w' row) (hne : v.ownBlock = none ∨ v.ownBlock ≠ row) : Row w' R v l := World.ownsRow.kept h hg hne
theorem Row.set {w : World} {R : Nat} {v : Value} {l : List Int} (h : Row w R v l) {b off : Nat} {x : Value} (hb : b < R) : Row (w.setCell ⟨b, off, none⟩ x) R v l := by
  refine h.keep ⟨by simp, fun k h1 h2 => heap_setCell_ne (by omega)⟩
theorem Row.rg {w w' : World} {R lo hi : Nat} {v : Value} {l : List Int} (h : Row w R v l) (hr : Rg lo hi w w') (hb : hi ≤ R) : Row w' R v l := h.keep (hr.high.low hb)
theorem heap_setCell_box {w : World} {b : Nat} {u v : Value} {t : TypeId} (h : w.heap[b]? = some (.cells #[u] t (0, 0))) : (w.setCell ⟨b, 0, none⟩ v).heap[b]? = some (.cells #[v] t (0, 0)) := by
  rw [heap_setCell_at h]; rfl
theorem Row.le {w : World} {R : Nat} {v : Value} {l : List Int} (h : Row w R v l) : ∃ sa cap, v = .slice sa l.length cap ∧ l.length ≤ cap := by
  obtain ⟨sa, cap, h1, h2, _⟩ := h.shape; exact ⟨sa, cap, h1, h2⟩

/-- What BufferRoom's closure works on: the boxes of 'all', of the buffer and of the byte, the buffer itself. -/
structure St (w : World) (R ba bb bc b : Nat) (k : Int) (c : Int) (v : Value) (l h : List Int) (a : Int) : Prop where
  all : w.heap[ba]? = some (.cells #[v] 23 (0, 0))
  box : w.heap[bb]? = some (.cells #[at0 b] 25 (0, 0))
  byt : w.heap[bc]? = some (.cells #[.int .u8 c] 5 (0, 0))
  row : Row w R v l
  buf : Buf w b k h a
  c0 : 0 ≤ c
  c1 : c ≤ 255
  o1 : bc < b
  o2 : b < bb
  o3 : bb < ba
  o4 : ba < R
  o5 : R ≤ w.heap.size
  bl : Bytes l
section
variable {w w' : World} {R ba bb bc b : Nat} {k c a : Int} {v : Value} {l h : List Int}
theorem St.next (s : St w R ba bb bc b k c v l h a) (hb : Below w.heap.size w w') : St w' R ba bb bc b k c v l h a :=
  ⟨carry hb s.all, carry hb s.box, carry hb s.byt, s.row.next hb, s.buf.next hb, s.c0, s.c1, s.o1, s.o2, s.o3, s.o4, Nat.le_trans s.o5 hb.size, s.bl⟩
theorem St.setC (s : St w R ba bb bc b k c v l h a) {c' : Int} (h0 : 0 ≤ c') (h1 : c' ≤ 255) : St (w.setCell ⟨bc, 0, none⟩ (.int .u8 c')) R ba bb bc b k c' v l h a := by
  have := s.o1; have := s.o2; have := s.o3; have := s.o4
  exact ⟨(heap_setCell_ne (by omega)).trans s.all, (heap_setCell_ne (by omega)).trans s.box, heap_setCell_box s.byt, s.row.set (by omega), s.buf.set (by omega), h0, h1, s.o1, s.o2, s.o3, s.o4, by simpa using s.o5, s.bl⟩
theorem St.act (s : St w R ba bb bc b k c v l h a) {h' : List Int} {a' : Int} (hr : Rg b (b + 1) w w') (hb : Buf w' b k h' a') : St w' R ba bb bc b k c v l h' a' := by
  have := s.o1; have := s.o2; have := s.o3; have := s.o4
  exact ⟨hr.keep (by omega) s.all, hr.keep (by omega) s.box, hr.keep (by omega) s.byt, s.row.rg hr (by omega), hb, s.c0, s.c1, s.o1, s.o2, s.o3, s.o4, Nat.le_trans s.o5 hr.high.size, s.bl⟩
theorem St.app (s : St w R ba bb bc b k c v l h a) {o : Obj} {w2 : World} {v' : Value} (hown : w2.ownsRow R 5 1 v' (l.length + 1) (l.map (.int .u8) ++ [.int .u8 c])) (hg : (w.alloc o).grownBy w2 v.ownBlock) :
    St (w2.setCell ⟨ba, 0, none⟩ v') R ba bb bc b k c v' (l ++ [c]) h a ∧ Below bc w (w2.setCell ⟨ba, 0, none⟩ v') := by
  have p1 := s.o1; have p2 := s.o2; have p3 := s.o3; have p4 := s.o4; have p5 := s.o5
  have hR := grown_below s.o5 (s.row.alloc o) hg
  have kp : ∀ {j : Nat} {x : Obj}, j < R → j ≠ ba → w.heap[j]? = some x → (w2.setCell ⟨ba, 0, none⟩ v').heap[j]? = some x := fun h1 h2 h3 => (heap_setCell_ne h2).trans ((hR.block _ h1).trans h3)
  refine ⟨⟨heap_setCell_box ((hR.block _ p4).trans s.all), kp (by omega) (by omega) s.box, kp (by omega) (by omega) s.byt, ?_, (s.buf.under hR (by omega)).set (by omega), s.c0, s.c1, p1, p2, p3, p4, ?_, ?_⟩, bset (hR.mono (by omega)) (by omega) _⟩
  · have : Row w2 R v' (l ++ [c]) := by
      unfold Row
      rw [List.length_append, List.map_append]
      exact hown
    exact this.set (by omega)
  · have := hR.size
    simp; omega
  · intro x hx
    have q0 := s.c0; have q1 := s.c1
    rcases List.mem_append.1 hx with hx | hx
    · exact s.bl x hx
    · obtain rfl : x = c := by simpa using hx
      omega
theorem St.cc (s : St w R ba bb bc b k c v l h a) (x : Value) : (w.setCell ⟨bc, 0, none⟩ x).cell? ⟨bb, 0, none⟩ = some (at0 b) := by
  have := s.o1; have := s.o2
  exact (cell_one ((heap_setCell_ne (by omega)).trans s.box)).1
theorem St.cd (s : St w R ba bb bc b k c v l h a) (x : Value) : (w.setCell ⟨bc, 0, none⟩ x).cell? ⟨bc, 0, none⟩ = some x := (cell_one (heap_setCell_box s.byt)).1
end

theorem bfull_no {w : World} {b : Nat} {s a : Int} {l : List Int} (H : Buf w b s l a) (h : (l.length : Int) < s) : Calls Try.prog 14 #[at0 b] w fun e w' => e = .returned (.bool false) ∧ Below w.heap.size w w' := by
  have := bfull H
  rwa [show ((l.length : Int) == s) = false by simpa using (by omega : ¬ (l.length : Int) = s)] at this
theorem bfull_yes {w : World} {b : Nat} {s a : Int} {l : List Int} (H : Buf w b s l a) (h : (l.length : Int) = s) : Calls Try.prog 14 #[at0 b] w fun e w' => e = .returned (.bool true) ∧ Below w.heap.size w w' := by
  have := bfull H
  rwa [show ((l.length : Int) == s) = true by simpa using h] at this
theorem wrap_u8 (x : Int) : 0 ≤ IntKind.u8.wrap x ∧ IntKind.u8.wrap x ≤ 255 := by
  simp [IntKind.wrap, IntKind.signed, IntKind.bits]; omega

set_option maxRecDepth 100000 in
set_option maxHeartbeats 4000000 in
theorem next_is {w : World} {R ba bb bc b : Nat} {k c a : Int} {v : Value} {l h : List Int} (s : St w R ba bb bc b k c v l h a) (hl : l.length + 256 < 2000) (hk : k ≤ 256) (hh : (h.length : Int) ≤ k) (ha : a + k < 281474976710656) :
    Calls Try.prog 20 #[at0 ba, at0 bb, at0 bc] w fun e w' => e = .returned (.bool true) ∧ ∃ c' v' m, St w' R ba bb bc b k c' v' (l ++ m) (h ++ m) a ∧ ((h ++ m).length : Int) = k ∧ Below bc w w' := by
  have S0 := Lib.hid s
  obtain ⟨i0, hi, hz0, hz1, hz2⟩ := info_parts infoByte
  have HL := Lib.hid hh
  clear s hh
  go_enter Try.func20, Try.ntmps20
  go_wp2_with fail
  go_loopg [4] (k - (h.length : Int)).toNat (fun gk s4 wr => ∃ c' v' m, St wr R ba bb bc b k c' v' (l ++ m) (h ++ m) a ∧ (m.length : Int) ≤ 256 ∧ ((h ++ m).length : Int) ≤ k ∧ (gk : Int) = k - ((h ++ m).length : Int) ∧ Below bc w wr)
  case atStart =>
    exact ⟨c, v, [], by simpa using S0.out, by simp, by simpa using HL.out, by have := HL.out; simp; omega, Below.refl _ _⟩
  case round =>
    obtain ⟨c1, v1, m, s, hm1, hm2, hgk, hb⟩ := hrel
    obtain ⟨sa, cap, rfl, hcap⟩ := s.row.le
    have HM := Lib.hid (show (l ++ m).length < 2000 by rw [List.length_append]; omega)
    obtain ⟨L, hL⟩ : ∃ L, L = l ++ m := ⟨_, rfl⟩
    obtain ⟨H, hH⟩ : ∃ H, H = h ++ m := ⟨_, rfl⟩
    rw [← hL] at s hcap HM
    rw [← hH] at s hm2 hgk
    have EL := Lib.hid hL
    have EH := Lib.hid hH
    have S1 := Lib.hid s
    have W1 := Lib.hid hb
    have G1 := Lib.hid hgk
    have hL2 : (L.length : Int) < 2000 := by have := HM.out; omega
    obtain ⟨e0, f0⟩ := cell_one s.all
    obtain ⟨e1, f1⟩ := cell_one s.box
    obtain ⟨e2, f2⟩ := cell_one s.byt
    clear s hb hL hH hgk
    by_cases hlt : (H.length : Int) < k
    · go_wp2_with (go_at_call 14; refine (bfull_no S1.out.buf hlt).mono ?_; rintro e w2 ⟨rfl, hb⟩; have S2 := Lib.hid (S1.out.next hb); have W2 := Lib.hid (W1.out.trans (hb.mono (by have := S1.out.o1; have := S1.out.buf.lt; omega))); (obtain ⟨e3, f3⟩ := cell_one S2.out.all); (obtain ⟨e4, f4⟩ := cell_one S2.out.box); (obtain ⟨e5, f5⟩ := cell_one S2.out.byt); (have hcc := fun x => S2.out.cc x); (have hcd := fun x => S2.out.cd x); clear hb e0 e1 e2 f0 f1 f2)
      refine (bput (w := _) (c := _) (S2.out.setC (c' := _) ?_ ?_).buf (by omega) (by omega)).mono ?_
      · omega
      · omega
      rintro e w3 ⟨rfl, hb, hr⟩
      obtain ⟨X, hX⟩ : ∃ X, X = (c1 * 5 + 3) % 256 := ⟨_, rfl⟩
      have X0 : 0 ≤ X := by omega
      have X1 : X ≤ 255 := by omega
      rw [← hX] at hb hr
      have S3 := Lib.hid ((S2.out.setC (c' := X) X0 X1).act hr hb)
      have W3 := Lib.hid ((bset W2.out (Nat.le_refl _) _).trans (hr.low.mono (by have := S2.out.o1; omega)))
      clear hX hb hr e3 e4 e5 f3 f4 f5 hcc hcd
      obtain ⟨e3, f3⟩ := cell_one S3.out.all
      obtain ⟨e4, f4⟩ := cell_one S3.out.box
      obtain ⟨e5, f5⟩ := cell_one S3.out.byt
      dsimp only
      have hM2 := HM.out
      go_wp2_with (at_builtin; refine wpList_append_own _ rfl _ _ 23 rfl R 5 i0 (.int .u8 0) 1 1 Try.underlying23 hi hz0 hz1 hz2 rfl (by decide) _ _ _ rfl (S3.out.row.alloc _) ⟨w3.heap.size, 0, none⟩ 1 1 [.int .u8 X] rfl rfl (cell_one_new _ _ _) (by simp [Value.oneCell']) (by simp [maxLen]; omega) (by omega) (by simp; have := S3.out.o5; omega) ?_; intro v' w4 hown hgrow _; obtain ⟨S4, B4⟩ := S3.out.app hown hgrow; (obtain ⟨sb, cap2, hv, hcap2⟩ := S4.row.le); rw [List.length_append, List.length_singleton] at hv; subst hv; have S4 := Lib.hid S4; have W4 := Lib.hid (W3.out.trans B4); obtain ⟨e6, f6⟩ := cell_one (((grown_below S3.out.o5 (S3.out.row.alloc _) hgrow).block _ S3.out.o4).trans S3.out.all); clear hown hgrow B4)
      have hm3 := HM.out
      go_roundg (k - ((h ++ (m ++ [X])).length : Int)).toNat
      case rel =>
        have hH := EH.out; have hL := EL.out
        subst hH; subst hL
        refine ⟨X, .slice sb ((l ++ m).length + 1) cap2, m ++ [X], ?_, ?_, ?_, ?_, W4.out⟩
        · have := S4.out
          rwa [List.append_assoc, List.append_assoc] at this
        · simp at hlt hm1 ⊢; omega
        · simp at hlt ⊢; omega
        · simp at hlt ⊢; omega
      case measure =>
        have hH := EH.out; have hg := G1.out
        subst hH
        simp at hg hlt ⊢; omega
    · have he : (H.length : Int) = k := by omega
      go_wp2_with (first | (go_at_call 14; refine (bfull_yes S1.out.buf he).mono ?_; rintro e w2 ⟨rfl, hb⟩; have S2 := Lib.hid (S1.out.next hb); have W2 := Lib.hid (W1.out.trans (hb.mono (by have := S1.out.o1; have := S1.out.buf.lt; omega))); (obtain ⟨e3, f3⟩ := cell_one S2.out.all); (obtain ⟨e4, f4⟩ := cell_one S2.out.box); (obtain ⟨e5, f5⟩ := cell_one S2.out.byt); clear hb e0 e1 e2 f0 f1 f2))
      refine (bfull_yes S2.out.buf he).mono ?_
      rintro e w2b ⟨rfl, hb⟩
      have S2b := Lib.hid (S2.out.next hb)
      have W2b := Lib.hid (W2.out.trans (hb.mono (by have := S2.out.o1; have := S2.out.buf.lt; omega)))
      obtain ⟨e3, f3⟩ := cell_one S2b.out.all
      obtain ⟨e4, f4⟩ := cell_one S2b.out.box
      obtain ⟨e5, f5⟩ := cell_one S2b.out.byt
      clear hb
      dsimp only
      go_wp2_with fail
      refine (bput_full (c := c1) S2b.out.buf he).mono ?_
      rintro e w3 ⟨rfl, hb⟩
      have S3 := Lib.hid (S2b.out.next hb)
      have W3 := Lib.hid (W2b.out.trans (hb.mono (by have := S2b.out.o1; have := S2b.out.buf.lt; omega)))
      clear hb
      dsimp only
      go_wp2_with fail
      go_ret
      have hH := EH.out; have hL := EL.out
      subst hH; subst hL
      exact ⟨rfl, c1, _, m, S3.out, he, W3.out⟩
end Go.Proofs.Ytogdhmbdackeeaa
