import Derived.Test.YtpjccbbemhjgbaaD
namespace Go.Proofs.Ytpjccbbemhjgbaa
open Go.RowKit

/-- What a function's end (and its world) must bring so that 'Or' ends as R says. -/
inductive OrIn (B : Nat) (kind : Int) (g2 : FuncId) (cap2 : Array Value) (R : Ending → World → Prop) (w1 : World) : Ending → Prop
  | ret (v : Value) (h : ∀ w3, Below B w1 w3 → R (.returned (.tuple #[v, .int .i64 0])) w3) : OrIn B kind g2 cap2 R w1 (.returned v)
  | same (m : Int) (older : List PanicEntry) (ho : older.dropWhile (!·.goexit) = [])
      (h : ∀ w3, Below B w1 w3 → Calls Try.prog g2 (#[.agg #[.int .u8 kind, .int .i64 m]] ++ cap2) w3 fun e w4 => match e with
        | .returned v => R (.returned (.tuple #[v, .int .i64 0])) w4
        | .panicked c => R (.panicked c) w4
        | .outgrown => False) :
      OrIn B kind g2 cap2 R w1 (.panicked ({ v := .iface 23 (.agg #[.int .u8 kind, .int .i64 m]), recovered := false } :: older))
  | diff (k m : Int) (older : List PanicEntry) (hk : 1 ≤ k) (hk2 : k ≤ 2) (hne : k ≠ kind) (ho : older.dropWhile (!·.goexit) = [])
      (h : ∀ w3, Below B w1 w3 → R (.panicked [{ v := .iface 23 (.agg #[.int .u8 k, .int .i64 m]), recovered := false }]) w3) :
      OrIn B kind g2 cap2 R w1 (.panicked ({ v := .iface 23 (.agg #[.int .u8 k, .int .i64 m]), recovered := false } :: older))
  | other (t : TypeId) (x : Value) (older : List PanicEntry) (ht : t ≠ 23)
      (h : ∀ w3, Below B w1 w3 → R (.panicked ({ v := .iface t x, recovered := false } :: { v := .iface t x, recovered := true } :: older)) w3) :
      OrIn B kind g2 cap2 R w1 (.panicked ({ v := .iface t x, recovered := false } :: older))

/-- What 'Or' does behind 'Try'. -/
inductive OrMid (B : Nat) (kind : Int) (g2 : FuncId) (cap2 : Array Value) (R : Ending → World → Prop) (w1 : World) (V : Value → Prop) : Ending → Prop
  | ret (v : Value) (hv : V v) (h : ∀ w3, Below B w1 w3 → R (.returned (.tuple #[v, .int .i64 0])) w3) : OrMid B kind g2 cap2 R w1 V (.returned (.tuple #[v, .agg #[.int .u8 0, .int .i64 0], .bool false, .int .i64 0]))
  | same (v : Value) (hv : V v) (m : Int)
      (h : ∀ w3, Below B w1 w3 → Calls Try.prog g2 (#[.agg #[.int .u8 kind, .int .i64 m]] ++ cap2) w3 fun e w4 => match e with
        | .returned v => R (.returned (.tuple #[v, .int .i64 0])) w4
        | .panicked c => R (.panicked c) w4
        | .outgrown => False) :
      OrMid B kind g2 cap2 R w1 V (.returned (.tuple #[v, .agg #[.int .u8 kind, .int .i64 m], .bool true, .int .i64 0]))
  | diff (v : Value) (hv : V v) (k m : Int) (hne : k ≠ kind)
      (h : ∀ w3, Below B w1 w3 → R (.panicked [{ v := .iface 23 (.agg #[.int .u8 k, .int .i64 m]), recovered := false }]) w3) :
      OrMid B kind g2 cap2 R w1 V (.returned (.tuple #[v, .agg #[.int .u8 k, .int .i64 m], .bool true, .int .i64 0]))
  | pan (c : List PanicEntry) (h : R (.panicked c) w1) : OrMid B kind g2 cap2 R w1 V (.panicked c)

theorem or_int {g : FuncId} (hg : Ent g) {cap : Array Value} {g2 : FuncId} (hg2 : Ent g2) {cap2 : Array Value} (kind : Int) (hk1 : 1 ≤ kind) (hk2 : kind ≤ 2) {w : World} {R : Ending → World → Prop}
    (h : ∀ w0, Below w.heap.size w w0 → Calls Try.prog g cap w0 fun e w1 => Above w.heap.size w0 w1 ∧ (∀ v, e = .returned v → ∃ n : Int, v = .int .i64 n) ∧ OrIn w.heap.size kind g2 cap2 R w1 e) :
    Calls Try.prog 27 #[.func (.func g) #[] cap, .int .u8 kind, .func (.func g2) #[] cap2] w R := by
  have hn : ∀ w : World, (binOp BinOp.eql 48 (.func (.func g) #[] cap) .nilFunc).run Try.prog w = .ok (.bool false) w := fun _ => by kernel_rfl
  have hn2 : ∀ w : World, (binOp BinOp.eql 49 (.func (.func g2) #[] cap2) .nilFunc).run Try.prog w = .ok (.bool false) w := fun _ => by kernel_rfl
  have hcf2 := fun x => hg2 (#[x] ++ cap2)
  have H := Lib.hid h; clear h
  have ht : (decide (1 ≤ kind) && decide (kind ≤ 2)) = true := by simp; omega
  have T := try_int hg (cap := cap) (w := w) (R := fun e2 w2 => w.heap.size ≤ w2.heap.size ∧ OrMid w.heap.size kind g2 cap2 R w2 (fun v => ∃ n : Int, v = .int .i64 n) e2) (by
    intro w0 hb0
    refine (H.out w0 hb0).mono ?_
    rintro e w1 ⟨ha, hv, hin⟩
    refine ⟨ha, hv, ?_⟩
    have hsz : ∀ w2, Below w.heap.size w1 w2 → w.heap.size ≤ w2.heap.size := fun w2 hb => by have := hb0.size; have := ha.size; have := hb.size; omega
    cases hin with
    | ret v h => exact ⟨_, .ret v, fun w2 hb => ⟨hsz _ hb, .ret v (hv v rfl) fun w3 hb3 => h w3 (hb.trans hb3)⟩⟩
    | same m older ho h => exact ⟨_, .fault kind m older hk1 hk2 ho, fun w2 hb => ⟨hsz _ hb, .same _ ⟨_, rfl⟩ m fun w3 hb3 => h w3 (hb.trans hb3)⟩⟩
    | diff k m older hk hk2 hne ho h => exact ⟨_, .fault k m older hk hk2 ho, fun w2 hb => ⟨hsz _ hb, .diff _ ⟨_, rfl⟩ k m hne fun w3 hb3 => h w3 (hb.trans hb3)⟩⟩
    | other t x older ht h => exact ⟨_, .other t x older ht, fun w2 hb => ⟨hsz _ hb, .pan _ (h w2 hb)⟩⟩)
  have HT := Lib.hid T
  clear T H
  go_enter Try.func27, Try.ntmps27
  go_wp2_with (go_at_call 43; refine (there_any _ _).mono ?_; rintro e w' ⟨rfl, rfl⟩)
  refine HT.out.mono ?_
  rintro e w2 ⟨hsz, hm⟩
  clear hn hn2 ht HT
  cases hm with
  | ret v hv h =>
    obtain ⟨n, rfl⟩ := hv
    have HR := Lib.hid h
    clear h
    dsimp only
    go_wp2_with fail
    exact HR.out _ (ballo (Below.refl _ _) hsz _)
  | same v hv m h =>
    obtain ⟨n, rfl⟩ := hv
    have HR := Lib.hid h
    clear h
    dsimp only
    go_wp2_with fail
    go_simp
    refine (HR.out _ (ballo (Below.refl _ _) hsz _)).mono ?_
    rintro e w3 hr
    cases e with
    | returned v =>
      have HR2 := Lib.hid hr
      clear hr
      dsimp only
      go_wp2_with fail
      exact HR2.out
    | panicked c => exact ⟨rfl, hr⟩
    | outgrown => exact hr.elim
  | diff v hv k m hne h =>
    obtain ⟨n, rfl⟩ := hv
    have HR := Lib.hid h
    clear h
    dsimp only
    go_wp2_with fail
    exact ⟨rfl, HR.out _ (ballo (Below.refl _ _) hsz _)⟩
  | pan c h => exact ⟨rfl, h⟩

theorem or_string {g : FuncId} (hg : Ent g) {cap : Array Value} {g2 : FuncId} (hg2 : Ent g2) {cap2 : Array Value} (kind : Int) (hk1 : 1 ≤ kind) (hk2 : kind ≤ 2) {w : World} {R : Ending → World → Prop}
    (h : ∀ w0, Below w.heap.size w w0 → Calls Try.prog g cap w0 fun e w1 => Above w.heap.size w0 w1 ∧ (∀ v, e = .returned v → ∃ n : ByteArray, v = .string n) ∧ OrIn w.heap.size kind g2 cap2 R w1 e) :
    Calls Try.prog 22 #[.func (.func g) #[] cap, .int .u8 kind, .func (.func g2) #[] cap2] w R := by
  have hn : ∀ w : World, (binOp BinOp.eql 35 (.func (.func g) #[] cap) .nilFunc).run Try.prog w = .ok (.bool false) w := fun _ => by kernel_rfl
  have hn2 : ∀ w : World, (binOp BinOp.eql 40 (.func (.func g2) #[] cap2) .nilFunc).run Try.prog w = .ok (.bool false) w := fun _ => by kernel_rfl
  have hcf2 := fun x => hg2 (#[x] ++ cap2)
  have H := Lib.hid h; clear h
  have ht : (decide (1 ≤ kind) && decide (kind ≤ 2)) = true := by simp; omega
  have T := try_string hg (cap := cap) (w := w) (R := fun e2 w2 => w.heap.size ≤ w2.heap.size ∧ OrMid w.heap.size kind g2 cap2 R w2 (fun v => ∃ n : ByteArray, v = .string n) e2) (by
    intro w0 hb0
    refine (H.out w0 hb0).mono ?_
    rintro e w1 ⟨ha, hv, hin⟩
    refine ⟨ha, hv, ?_⟩
    have hsz : ∀ w2, Below w.heap.size w1 w2 → w.heap.size ≤ w2.heap.size := fun w2 hb => by have := hb0.size; have := ha.size; have := hb.size; omega
    cases hin with
    | ret v h => exact ⟨_, .ret v, fun w2 hb => ⟨hsz _ hb, .ret v (hv v rfl) fun w3 hb3 => h w3 (hb.trans hb3)⟩⟩
    | same m older ho h => exact ⟨_, .fault kind m older hk1 hk2 ho, fun w2 hb => ⟨hsz _ hb, .same _ ⟨_, rfl⟩ m fun w3 hb3 => h w3 (hb.trans hb3)⟩⟩
    | diff k m older hk hk2 hne ho h => exact ⟨_, .fault k m older hk hk2 ho, fun w2 hb => ⟨hsz _ hb, .diff _ ⟨_, rfl⟩ k m hne fun w3 hb3 => h w3 (hb.trans hb3)⟩⟩
    | other t x older ht h => exact ⟨_, .other t x older ht, fun w2 hb => ⟨hsz _ hb, .pan _ (h w2 hb)⟩⟩)
  have HT := Lib.hid T
  clear T H
  go_enter Try.func22, Try.ntmps22
  go_wp2_with (go_at_call 43; refine (there_any _ _).mono ?_; rintro e w' ⟨rfl, rfl⟩)
  refine HT.out.mono ?_
  rintro e w2 ⟨hsz, hm⟩
  clear hn hn2 ht HT
  cases hm with
  | ret v hv h =>
    obtain ⟨n, rfl⟩ := hv
    have HR := Lib.hid h
    clear h
    dsimp only
    go_wp2_with fail
    exact HR.out _ (ballo (Below.refl _ _) hsz _)
  | same v hv m h =>
    obtain ⟨n, rfl⟩ := hv
    have HR := Lib.hid h
    clear h
    dsimp only
    go_wp2_with fail
    go_simp
    refine (HR.out _ (ballo (Below.refl _ _) hsz _)).mono ?_
    rintro e w3 hr
    cases e with
    | returned v =>
      have HR2 := Lib.hid hr
      clear hr
      dsimp only
      go_wp2_with fail
      exact HR2.out
    | panicked c => exact ⟨rfl, hr⟩
    | outgrown => exact hr.elim
  | diff v hv k m hne h =>
    obtain ⟨n, rfl⟩ := hv
    have HR := Lib.hid h
    clear h
    dsimp only
    go_wp2_with fail
    exact ⟨rfl, HR.out _ (ballo (Below.refl _ _) hsz _)⟩
  | pan c h => exact ⟨rfl, h⟩
end Go.Proofs.Ytpjccbbemhjgbaa
