import Derived.Test.YtogdhmbdackeeaaS
import Derived.Maps.AppendAt
import Derived.IntWalk
import Derived.Deep.RegionHeld3
namespace Go.Proofs.Ytogdhmbdackeeaa
open Go.RowKit
set_option linter.unusedVariables false

/-! ## append of a row's bytes -/
theorem run_app {w : World} {R : Nat} {v : Value} {p q : List Int} {sa : Option Addr} {c : Nat} (ty : TypeId) (hown : Row w R v p) (hr : Reads w (.slice sa q.length c) q) (hsz : p.length + q.length ≤ 100000) (hb : R ≤ w.heap.size) :
    ∃ v' w', (Builtin.append_ #[23, 23] ty #[v, .slice sa q.length c]).run Try.prog w = .ok v' w' ∧ Row w' R v' (p ++ q) ∧ w.grownBy w' v.ownBlock ∧ (v'.ownBlock = v.ownBlock ∨ v'.ownBlock = some w.heap.size) := by
  obtain ⟨i0, hi, hz0, hz1, hz2⟩ := info_parts infoByte
  cases sa with
  | none =>
    have hq : q = [] := by
      rcases q with _ | ⟨x, q⟩
      · rfl
      · obtain ⟨sa', c', e, hc⟩ := hr
        obtain ⟨pb, po, e2, _⟩ := hc 0 (by simp)
        simp only [Value.slice.injEq] at e
        rw [e2] at e
        cases e.1
    subst hq
    refine ⟨v, w, ?_, by simpa using hown, ⟨rfl, rfl, rfl, Nat.le_refl _, fun _ _ _ => rfl⟩, .inl rfl⟩
    rcases hown.2 with ⟨rfl, _⟩ | ⟨g, cap, cur, rfl, _, _, hnc, _⟩
    · simp [Builtin.append_, run_underlying Try.underlying23, sizeOf, typeInfo, hi, Builtin.lenOf, Builtin.firstCells]
    · simp [Builtin.append_, run_underlying Try.underlying23, sizeOf, typeInfo, hi, Builtin.lenOf, Builtin.firstCells, hnc, storeCells]
  | some ad =>
    obtain ⟨v', w', h1, h2, h3, _, h5⟩ := run_append_own_at (P := Try.prog) w R 23 ty 5 i0 (.int .u8 0) 1 1 Try.underlying23 hi hz0 hz1 hz2 rfl (by decide) v p.length (p.map (.int .u8)) hown ad q.length c (q.map (.int .u8)) (by simp) (Reads.cells hr) ones (by simp [maxLen]; omega) (by omega) hb
    refine ⟨v', w', h1, ?_, h3, h5⟩
    unfold Row
    rw [List.length_append, List.map_append]
    exact h2

theorem wp_app {w : World} {o : Oper} {a : Act} {K : Act → World → Prop} {Q : Exit → Act → World → Prop} {R : Nat} {v : Value} {p q : List Int} {sa : Option Addr} {c : Nat} (s x : Operand)
    (ho : o.op = .call { callee := .builtin .append, args := #[s, x], argTypes := #[23, 23] }) (hs : a.eval s = v) (hx : a.eval x = .slice sa q.length c)
    (hown : Row w R v p) (hr : Reads w (.slice sa q.length c) q) (hsz : p.length + q.length ≤ 100000) (hb : R ≤ w.heap.size)
    (h : ∀ v' w', Row w' R v' (p ++ q) → w.grownBy w' v.ownBlock → (v'.ownBlock = v.ownBlock ∨ v'.ownBlock = some w.heap.size) → K (a.put o.dst v') w') : o.wp Try.prog a w K Q := by
  obtain ⟨v', w', hrun, h2, h3, h4⟩ := run_app o.type hown hr hsz hb
  unfold Oper.wp execOp
  simp only [ho, resolve, invoke, builtin, Sem.run_bind, Sem.run_pure, Result.andThen_ok, List.map_toArray, List.map_cons, List.map_nil, hs, hx, hrun]
  exact h v' w' h2 h3 h4
theorem wpList_app {w : World} {ops : Array Oper} {rest : List Oper} {o : Oper} {a : Act} {Q : Exit → Act → World → Prop} {R : Nat} {v : Value} {p q : List Int} {sa : Option Addr} {c : Nat} (hgd : o.guard = none) (s x : Operand)
    (ho : o.op = .call { callee := .builtin .append, args := #[s, x], argTypes := #[23, 23] }) (hs : a.eval s = v) (hx : a.eval x = .slice sa q.length c)
    (hown : Row w R v p) (hr : Reads w (.slice sa q.length c) q) (hsz : p.length + q.length ≤ 100000) (hb : R ≤ w.heap.size)
    (h : ∀ v' w', Row w' R v' (p ++ q) → w.grownBy w' v.ownBlock → (v'.ownBlock = v.ownBlock ∨ v'.ownBlock = some w.heap.size) → wpList Try.prog ops Q rest (a.put o.dst v') w') : wpList Try.prog ops Q (o :: rest) a w :=
  wpList_plain hgd fun _ hK => wp_app s x ho hs hx hown hr hsz hb fun v' w' h2 h3 h4 => hK _ _ (h v' w' h2 h3 h4)
theorem step_app {w : World} {ops : Array Oper} {o : Oper} {a : Act} {K : Act → World → Prop} {Q : Exit → Act → World → Prop} {E : Prop} {R : Nat} {v : Value} {p q : List Int} {sa : Option Addr} {c : Nat} (hgd : o.guard = none) (s x : Operand)
    (ho : o.op = .call { callee := .builtin .append, args := #[s, x], argTypes := #[23, 23] }) (hs : a.eval s = v) (hx : a.eval x = .slice sa q.length c)
    (hown : Row w R v p) (hr : Reads w (.slice sa q.length c) q) (hsz : p.length + q.length ≤ 100000) (hb : R ≤ w.heap.size)
    (h : ∀ v' w', Row w' R v' (p ++ q) → w.grownBy w' v.ownBlock → (v'.ownBlock = v.ownBlock ∨ v'.ownBlock = some w.heap.size) → K (a.put o.dst v') w') :
    if Region.wanted o (yielded ops a.tmps) = true then Oper.wp Try.prog o a w K Q else E := by
  have hw : Region.wanted o (yielded ops a.tmps) = true := by simp [Region.wanted, hgd]
  rw [if_pos hw]
  exact wp_app s x ho hs hx hown hr hsz hb h

/-- What BufferKeeps works on: a buffer and two rows that share no block. -/
structure KI (w0 w : World) (R b : Nat) (k : Int) (u v : Value) (G P H : List Int) (a : Int) : Prop where
  buf : Buf w b k H a
  gone : Row w R u G
  put : Row w R v P
  sep : ∀ g, u.ownBlock = some g → v.ownBlock = some g → False
  bl : b < R
  lo : w0.heap.size ≤ b
  rs : R ≤ w.heap.size
  below : Below w0.heap.size w0 w
section
variable {w0 w w' : World} {R b : Nat} {k a : Int} {u v : Value} {G P H : List Int}
theorem KI.next (s : KI w0 w R b k u v G P H a) (hb : Below w.heap.size w w') : KI w0 w' R b k u v G P H a :=
  ⟨s.buf.next hb, s.gone.next hb, s.put.next hb, s.sep, s.bl, s.lo, Nat.le_trans s.rs hb.size, bnext s.below hb⟩
theorem KI.act (s : KI w0 w R b k u v G P H a) {H' : List Int} {a' : Int} (hr : Rg b (b + 1) w w') (hb : Buf w' b k H' a') : KI w0 w' R b k u v G P H' a' :=
  ⟨hb, s.gone.rg hr s.bl, s.put.rg hr s.bl, s.sep, s.bl, s.lo, Nat.le_trans s.rs hr.high.size, s.below.trans (hr.low.mono s.lo)⟩
theorem row_lt {w : World} {R : Nat} {v : Value} {l : List Int} (h : Row w R v l) {g : Nat} (hg : v.ownBlock = some g) : R ≤ g ∧ g < w.heap.size := World.ownsRow.lt h g hg
theorem grow_low {w w' : World} {R : Nat} {v : Value} {l : List Int} (h : Row w R v l) (hR : R ≤ w.heap.size) (hg : w.grownBy w' v.ownBlock) : Below R w w' := by
  refine (Below.refl R w).grown hg hR fun j ej => (row_lt h ej).1
theorem KI.appU (s : KI w0 w R b k u v G P H a) {u' : Value} {N : List Int} (ho : Row w' R u' (G ++ N)) (hg : w.grownBy w' u.ownBlock) (hat : u'.ownBlock = u.ownBlock ∨ u'.ownBlock = some w.heap.size) : KI w0 w' R b k u' v (G ++ N) P H a := by
  have hl := grow_low s.gone s.rs hg
  refine ⟨s.buf.under hl s.bl, ho, s.put.under hg ?_, ?_, s.bl, s.lo, Nat.le_trans s.rs hl.size, s.below.trans (hl.mono (Nat.le_trans s.lo (Nat.le_of_lt s.bl)))⟩
  · cases hv : v.ownBlock with
    | none => exact .inl rfl
    | some g => exact .inr fun e => s.sep g e.symm hv
  · intro g h1 h2
    rcases hat with h | h
    · exact s.sep g (h ▸ h1) h2
    · rw [h] at h1
      have := (row_lt s.put h2).2
      simp at h1; omega
theorem KI.appV (s : KI w0 w R b k u v G P H a) {v' : Value} {N : List Int} (ho : Row w' R v' (P ++ N)) (hg : w.grownBy w' v.ownBlock) (hat : v'.ownBlock = v.ownBlock ∨ v'.ownBlock = some w.heap.size) : KI w0 w' R b k u v' G (P ++ N) H a := by
  have hl := grow_low s.put s.rs hg
  refine ⟨s.buf.under hl s.bl, s.gone.under hg ?_, ho, ?_, s.bl, s.lo, Nat.le_trans s.rs hl.size, s.below.trans (hl.mono (Nat.le_trans s.lo (Nat.le_of_lt s.bl)))⟩
  · cases hu : u.ownBlock with
    | none => exact .inl rfl
    | some g => exact .inr fun e => s.sep g hu e.symm
  · intro g h1 h2
    rcases hat with h | h
    · exact s.sep g h1 (h ▸ h2)
    · rw [h] at h2
      have := (row_lt s.gone h1).2
      simp at h2; omega
end
end Go.Proofs.Ytogdhmbdackeeaa
