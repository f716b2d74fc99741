import Derived.Test.YtogdhmbdackeeaaH
namespace Go.Proofs.Ytogdhmbdackeeaa
open Go.RowKit
set_option linter.unusedVariables false

/-! ## A buffer as a list -/
theorem emod_lt2 {x s : Int} (hs : 0 < s) (h0 : 0 ≤ x) (h : x < 2 * s) : x % s = if x < s then x else x - s := by
  split
  · exact Int.emod_eq_of_lt h0 (by omega)
  · have e : x = (x - s) + s := by omega
    rw [e, Int.add_emod_right, Int.emod_eq_of_lt (by omega) (by omega)]
    omega
theorem rd_set {r : List Int} {i j : Nat} {v : Int} (hi : i < r.length) : rd (r.set i v) j = if i = j then v else rd r j := by
  unfold rd
  simp only [List.getD_eq_getElem?_getD, List.getElem?_set]
  split
  · simp_all
  · rfl
theorem held_rd {r : List Int} {s f : Int} {k j : Nat} (h : j < k) : rd (held r s f k) j = rd r ((f + (j : Int)) % s).toNat := by
  simp [rd, held, h]
theorem held_set {r : List Int} {s f c : Int} {h : Nat} (hr : r.length = 256) (hs : 2 ≤ s) (hs2 : s ≤ 256) (hf : 0 ≤ f) (hf2 : f < s) (hh : (h : Int) < s) :
    held (r.set ((f + (h : Int)) % s).toNat c) s f (h + 1) = held r s f h ++ [c] := by
  have b0 : 0 ≤ (f + (h : Int)) % s := Int.emod_nonneg _ (by omega)
  have b1 : (f + (h : Int)) % s < s := Int.emod_lt_of_pos _ (by omega)
  rw [held_succ]
  congr 1
  · unfold held
    refine List.map_congr_left fun j hj => ?_
    have hj' : j < h := by simpa using hj
    rw [rd_set (by omega), if_neg]
    intro e
    have c0 : 0 ≤ (f + (j : Int)) % s := Int.emod_nonneg _ (by omega)
    have e2 : (f + (h : Int)) % s = (f + (j : Int)) % s := by omega
    rw [emod_lt2 (by omega) (by omega) (by omega), emod_lt2 (by omega) (by omega) (by omega)] at e2
    split at e2 <;> split at e2 <;> omega
  · rw [rd_set (by omega), if_pos rfl]
theorem held_drop {r : List Int} {s f : Int} {n k : Nat} : held r s ((f + (n : Int)) % s) k = (held r s f (n + k)).drop n := by
  refine List.ext_getElem (by simp [held]) fun i h1 h2 => ?_
  simp only [held, List.getElem_map, List.getElem_range, List.getElem_drop]
  rw [Int.emod_add_emod, show f + (n : Int) + (i : Int) = f + ((n + i : Nat) : Int) by push_cast; omega]
theorem held_take {r : List Int} {s f : Int} {n k : Nat} (h : n ≤ k) : (held r s f k).take n = held r s f n := by
  refine List.ext_getElem (by simp [held]; omega) fun i h1 h2 => ?_
  simp [held]

/-- Block b is a buffer of the size s that holds the bytes l, which begin at a. -/
def Buf (w : World) (b : Nat) (s : Int) (l : List Int) (a : Int) : Prop :=
  ∃ r f, BufAt w b r s f l.length a ∧ 2 ≤ s ∧ s ≤ 256 ∧ 0 ≤ f ∧ f < s ∧ (l.length : Int) ≤ s ∧ held r s f l.length = l ∧ 0 ≤ a ∧ a + l.length ≤ 281474976710656
section
variable {w w' : World} {b : Nat} {s a : Int} {l : List Int}
theorem Buf.lt (H : Buf w b s l a) : b < w.heap.size := by obtain ⟨r, f, h, _⟩ := H; exact h.lt
theorem Buf.size_le (H : Buf w b s l a) : 2 ≤ s ∧ s ≤ 256 ∧ (l.length : Int) ≤ s ∧ 0 ≤ a ∧ a + l.length ≤ 281474976710656 := by obtain ⟨r, f, h, h1, h2, h3, h4, h5, h6, h7, h8⟩ := H; exact ⟨h1, h2, h5, h7, h8⟩
theorem Buf.next (H : Buf w b s l a) (hb : Below w.heap.size w w') : Buf w' b s l a := by obtain ⟨r, f, h, hh⟩ := H; exact ⟨r, f, h.next hb, hh⟩
theorem Buf.alloc (H : Buf w b s l a) (o : Obj) : Buf (w.alloc o) b s l a := by obtain ⟨r, f, h, hh⟩ := H; exact ⟨r, f, h.alloc o, hh⟩
theorem Buf.keep (H : Buf w b s l a) {lo hi : Nat} (hr : Rg lo hi w w') (hk : b < lo ∨ hi ≤ b) : Buf w' b s l a := by obtain ⟨r, f, h, hh⟩ := H; exact ⟨r, f, h.keep hr hk, hh⟩
theorem Buf.set (H : Buf w b s l a) {b' off : Nat} {v : Value} (h : b ≠ b') : Buf (w.setCell ⟨b', off, none⟩ v) b s l a := by obtain ⟨r, f, hb, hh⟩ := H; exact ⟨r, f, ⟨hb.1, (heap_setCell_ne h).trans hb.2⟩, hh⟩
theorem Buf.drew (H : Buf w b s l a) : Buf w.drew b s l a := H
theorem Buf.drewN (H : Buf w b s l a) (n : Nat) : Buf (w.drewN n) b s l a := H

theorem bnone (H : Buf w b s l a) : Calls Try.prog 29 #[at0 b] w fun e w' => e = .returned (.bool false) ∧ w = w' := by
  obtain ⟨r, f, h, h1, _⟩ := H; exact none_no h h1
theorem bsize (H : Buf w b s l a) : Calls Try.prog 21 #[at0 b] w fun e w' => e = .returned (.int .i64 s) ∧ w = w' := by
  obtain ⟨r, f, h, h1, _⟩ := H; exact size_is h h1
theorem bfull (H : Buf w b s l a) : Calls Try.prog 14 #[at0 b] w fun e w' => e = .returned (.bool ((l.length : Int) == s)) ∧ Below w.heap.size w w' := by
  obtain ⟨r, f, h, h1, _⟩ := H; exact full_is h h1
theorem bpart (H : Buf w b s l a) : Calls Try.prog 18 #[at0 b] w fun e w' => e = .returned (part a (a + l.length)) ∧ Below w.heap.size w w' := by
  obtain ⟨r, f, h, h1, h2, h3, h4, h5, h6, h7, h8⟩ := H; exact part_is h h1 (by omega) (by omega) h7 (by omega)
theorem bat {i : Int} (H : Buf w b s l a) (hi : 0 ≤ i) (hi2 : i < l.length) : Calls Try.prog 22 #[at0 b, .int .i64 i] w fun e w' => e = .returned (.tuple #[.int .u8 (rd l i.toNat), .bool true]) ∧ Below w.heap.size w w' := by
  obtain ⟨r, f, h, h1, h2, h3, h4, h5, h6, h7, h8⟩ := H
  have := at_is h h1 h2 h3 h4 h5 hi hi2
  rw [← h6, held_rd (by omega), show ((i.toNat : Nat) : Int) = i by omega]
  exact this
theorem bat_no {i : Int} (H : Buf w b s l a) (hi : i < 0 ∨ (l.length : Int) ≤ i) : Calls Try.prog 22 #[at0 b, .int .i64 i] w fun e w' => e = .returned (.tuple #[.int .u8 0, .bool false]) ∧ w = w' := by
  obtain ⟨r, f, h, h1, _⟩ := H; exact at_no h h1 hi
theorem bbytes (H : Buf w b s l a) : Calls Try.prog 15 #[at0 b] w fun e w' => ∃ v, e = .returned v ∧ w'.ownsRow w.heap.size 5 1 v l.length (l.map (.int .u8)) ∧ Below w.heap.size w w' := by
  obtain ⟨r, f, h, h1, h2, h3, h4, h5, h6, h7, h8⟩ := H
  have := bytes_is h h1 h2 h3 h4 h5 (by omega)
  rw [show ((l.length : Nat) : Int).toNat = l.length by omega, h6] at this
  exact this
theorem bput {c : Int} (H : Buf w b s l a) (hlt : (l.length : Int) < s) (hl : a + l.length < 281474976710656) :
    Calls Try.prog 17 #[at0 b, .int .u8 c] w fun e w' => e = .returned (.int .i64 0) ∧ Buf w' b s (l ++ [c]) a ∧ Rg b (b + 1) w w' := by
  obtain ⟨r, f, h, h1, h2, h3, h4, h5, h6, h7, h8⟩ := H
  refine (put_ok (c := c) h h1 h2 h3 h4 (by omega) hlt h7 hl).mono ?_
  rintro e w' ⟨he, hb, hr⟩
  have hl2 : (l ++ [c]).length = l.length + 1 := by simp
  refine ⟨he, ⟨_, f, by rw [hl2]; exact hb, h1, h2, h3, h4, by omega, ?_, h7, by omega⟩, hr⟩
  rw [hl2, held_set h.1 h1 h2 h3 h4 hlt, h6]
theorem bput_full {c : Int} (H : Buf w b s l a) (he : (l.length : Int) = s) : Calls Try.prog 17 #[at0 b, .int .u8 c] w fun e w' => e = .returned (.int .i64 4) ∧ Below w.heap.size w w' := by
  obtain ⟨r, f, h, h1, _⟩ := H; rw [he] at h; exact put_full h h1
theorem bput_long {c : Int} (H : Buf w b s l a) (hne : (l.length : Int) ≠ s) (hl : a + l.length = 281474976710656) : Calls Try.prog 17 #[at0 b, .int .u8 c] w fun e w' => e = .returned (.int .i64 3) ∧ Below w.heap.size w w' := by
  obtain ⟨r, f, h, h1, h2, h3, h4, h5, h6, h7, h8⟩ := H; exact put_long h h1 hne hl h7 (by omega)
theorem bdrop {n : Nat} (H : Buf w b s l a) (hn : n ≤ l.length) :
    Calls Try.prog 30 #[at0 b, .int .i64 n] w fun e w' => e = .returned (part a (a + n)) ∧ Buf w' b s (l.drop n) (a + n) ∧ Rg b (b + 1) w w' := by
  obtain ⟨r, f, h, h1, h2, h3, h4, h5, h6, h7, h8⟩ := H
  refine (drop_is (n := n) h h1 h2 h3 h4 (by omega) h5 (by omega) (by omega) h7 (by omega)).mono ?_
  rintro e w' ⟨he, hb, hr⟩
  have hl2 : (l.drop n).length = l.length - n := by simp
  refine ⟨he, ⟨r, (f + (n : Int)) % s, ?_, h1, h2, Int.emod_nonneg _ (by omega), Int.emod_lt_of_pos _ (by omega), by omega, ?_, by omega, by omega⟩, hr⟩
  · rw [hl2, show ((l.length - n : Nat) : Int) = l.length - n by omega]; exact hb
  · rw [hl2, held_drop, show n + (l.length - n) = l.length by omega, h6]
theorem bdiscard (H : Buf w b s l a) (he : (l.length : Int) = s) :
    Calls Try.prog 16 #[at0 b] w fun e w' => e = .returned (.tuple #[part a (a + (s + 1) / 2), .int .i64 0]) ∧ Buf w' b s (l.drop ((s + 1) / 2).toNat) (a + (s + 1) / 2) ∧ Rg b (b + 1) w w' := by
  obtain ⟨r, f, h, h1, h2, h3, h4, h5, h6, h7, h8⟩ := H
  rw [he] at h
  refine (discard_ok h h1 h2 h3 h4 h7 (by omega)).mono ?_
  rintro e w' ⟨he', hb, hr⟩
  have q0 : 0 ≤ (s + 1) / 2 := by omega
  have q1 : (s + 1) / 2 ≤ s := by omega
  have hl2 : (l.drop ((s + 1) / 2).toNat).length = l.length - ((s + 1) / 2).toNat := by simp
  have hn : (((s + 1) / 2).toNat : Int) = (s + 1) / 2 := by omega
  refine ⟨he', ⟨r, (f + (s + 1) / 2) % s, ?_, h1, h2, Int.emod_nonneg _ (by omega), Int.emod_lt_of_pos _ (by omega), by omega, ?_, by omega, by omega⟩, hr⟩
  · rw [hl2, show ((l.length - ((s + 1) / 2).toNat : Nat) : Int) = s - (s + 1) / 2 by omega]; exact hb
  · rw [hl2]
    have := held_drop (r := r) (s := s) (f := f) (n := ((s + 1) / 2).toNat) (k := l.length - ((s + 1) / 2).toNat)
    rw [hn] at this
    rw [this, show ((s + 1) / 2).toNat + (l.length - ((s + 1) / 2).toNat) = l.length by omega, h6]
theorem bdiscard_room (H : Buf w b s l a) (hne : (l.length : Int) ≠ s) :
    Calls Try.prog 16 #[at0 b] w fun e w' => e = .returned (.tuple #[part 0 0, .int .i64 310]) ∧ Below w.heap.size w w' := by
  obtain ⟨r, f, h, h1, _⟩ := H; exact discard_room h h1 hne
theorem bnew (s a : Int) (h1 : 2 ≤ s) (h2 : s ≤ 256) (h3 : 0 ≤ a) (h4 : a ≤ 281474976710656) (w : World) :
    Calls Try.prog 11 #[.int .i64 s, .int .i64 a] w fun e w' => e = .returned (.tuple #[at0 w.heap.size, .int .i64 0]) ∧ Buf w' w.heap.size s [] a ∧ Below w.heap.size w w' :=
  (new_ok s a h1 h2 h3 h4 w).mono fun e w' ⟨he, hb, hr⟩ => ⟨he, ⟨_, 0, hb, h1, h2, Int.le_refl _, by omega, by simp; omega, rfl, h3, by simpa using h4⟩, hr⟩

/-- The bytes p stand at i. -/
def Here (l p : List Int) (i : Nat) : Prop := (l.drop i).take p.length = p
/-- What Find answers, of a list. -/
def FoundL (l p : List Int) (fr : Nat) (v : Int) : Prop :=
  (v = -1 ∧ ∀ i : Nat, fr ≤ i → i + p.length ≤ l.length → ¬ Here l p i) ∨
  (∃ k : Nat, v = k ∧ fr ≤ k ∧ k + p.length ≤ l.length ∧ Here l p k ∧ ∀ i : Nat, fr ≤ i → i < k → ¬ Here l p i)
theorem match_here {r : List Int} {f : Int} {p : List Int} {i : Nat} (h6 : held r s f l.length = l) (hi : i + p.length ≤ l.length) : Match r s f p i p.length ↔ Here l p i := by
  constructor
  · intro h
    unfold Here
    refine List.ext_getElem (by simp; omega) fun j h1 h2 => ?_
    have := h j h2
    rw [show f + ((i : Int) + (j : Int)) = f + ((i + j : Nat) : Int) by push_cast; rfl, ← held_rd (k := l.length) (by omega), h6] at this
    have e1 : rd l (i + j) = l[i + j]'(by omega) := by simp [rd, show i + j < l.length by omega]
    have e2 : rd p j = p[j] := by simp [rd, h2]
    rw [e1, e2] at this
    simpa using this
  · intro h j hj
    rw [show f + ((i : Int) + (j : Int)) = f + ((i + j : Nat) : Int) by push_cast; rfl, ← held_rd (k := l.length) (by omega), h6]
    have e1 : rd l (i + j) = l[i + j]'(by omega) := by simp [rd, show i + j < l.length by omega]
    have e2 : rd p j = p[j] := by simp [rd, hj]
    rw [e1, e2]
    have e3 : ((l.drop i).take p.length)[j]? = p[j]? := by rw [show (l.drop i).take p.length = p from h]
    simpa [hj, show i + j < l.length by omega] using e3
theorem bfind {sv : Value} {p : List Int} {fr : Nat} (H : Buf w b s l a) (hr : Reads w sv p) (hp : p.length ≤ 1000) (hfr : fr ≤ l.length) :
    Calls Try.prog 23 #[at0 b, sv, .int .i64 fr] w fun e w' => ∃ v, e = .returned (.int .i64 v) ∧ FoundL l p fr v ∧ Below w.heap.size w w' := by
  obtain ⟨r, f, h, h1, h2, h3, h4, h5, h6, h7, h8⟩ := H
  refine (find_is h h1 h2 h3 h4 h5 (by omega) hr hp (by omega) (by omega)).mono ?_
  rintro e w' ⟨v, he, hv, hb⟩
  refine ⟨v, he, ?_, hb⟩
  rcases hv with ⟨rfl, hno⟩ | ⟨g1, g2, g3, g4⟩
  · exact .inl ⟨rfl, fun i hi1 hi2 hh => hno i (by omega) (by omega) ((match_here h6 hi2).2 hh)⟩
  · refine .inr ⟨v.toNat, by omega, by omega, by omega, (match_here h6 (by omega)).1 (by rw [show ((v.toNat : Nat) : Int) = v by omega]; exact g3), fun i hi1 hi2 hh => g4 i (by omega) (by omega) ((match_here h6 (by omega)).2 hh)⟩
end
end Go.Proofs.Ytogdhmbdackeeaa
