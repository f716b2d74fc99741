/-
  No cell of these rows narrows 'for every input' (looked for: loops, veiled, ifaces, maps, wideKeys, modest, calm, conditions, laid).
  DERIVED. THE GIVEN ROWS OF THIS SEAT. 8 by the template 'for every input the law returns true; each argument reads behind the call as it read before'; 0 by the template 'total and deterministic' (their statements: YtpjccbbemhjgbaaTotals.lean).
  GIVEN WITH THE SEED: the statements are not yours to turn. If you find one false, say at which input.
  Laid BY PROGRAM, IN A SANDBOX (cutbox-rows.mjs): the forced cells as the released guide's own fill.sh prints them over the translation b05b866945f47ea7… (all of the seat's roots in one cut). By AI agents, Wed Nov 11 2026. No macro, syntax, notation, axiom, sorry.
-/
import Derived.Test.YtpjccbbemhjgbaaChecked
import GoSem.Claim
import GoSem.ClaimJoined
import GoSem.ClaimMapViews
import Derived.JoinedTies
import Derived.KernelRfl
namespace Go.Proofs.Ytpjccbbemhjgbaa
/- THE CELL 'sum', in the pinned program and in every row, IS THE sha256 OF THE DUMP (.gsa) THAT YtpjccbbemhjgbaaProg.lean LOADS. Nothing in Lean hashes anything: it is a label: what it is worth is what the hold of that sum in a sandbox is worth. -/
noncomputable def Try.pinned : Pinned := { name := "ytpjccbbemhjgbaa", sum := "b05b866945f47ea7843815a8acd0a1a282e90fdb640246fb8a1ff536b7b61139", checked := Try.checked }
namespace Rows
def none {H : Type} : Left H := { results := [], args := [] }

/-- 'reparteelaw35.FaultInner': WHATEVER THE INPUT: true; the input reads as it did. -/
def faultInnerSpec : ChangeSpec := { name := "faultInner", fn := fun _ => fun
  | [d1, d2, d3, d4, d5] => { results := [.lit (.bool true)], args := [d1, d2, d3, d4, d5] }
  | _ => none }
def faultInnerRow : OpenClaim := { program := "ytpjccbbemhjgbaa", sum := "b05b866945f47ea7843815a8acd0a1a282e90fdb640246fb8a1ff536b7b61139", func := "repartee/reparteelaw35.FaultInner", spec := "faultInner", unfollowed := true, recurses := true, apart := false }
def FaultInnerSaid : Prop := faultInnerRow.holds Try.pinned (OpenSpec.ofChange faultInnerSpec)

/-- ITS FALSE NEIGHBOUR: 'it returns false'. Refute it at one input. -/
def faultInnerWrong : ChangeSpec := { name := "faultInner", fn := fun _ => fun
  | [d1, d2, d3, d4, d5] => { results := [.lit (.bool false)], args := [d1, d2, d3, d4, d5] }
  | _ => none }
def FaultInnerWrongFalsely : Prop := faultInnerRow.holds Try.pinned (OpenSpec.ofChange faultInnerWrong)

/-- 'reparteelaw35.FaultTry': WHATEVER THE INPUT: true; the input reads as it did. -/
def faultTrySpec : ChangeSpec := { name := "faultTry", fn := fun _ => fun
  | [d1, d2, d3, d4] => { results := [.lit (.bool true)], args := [d1, d2, d3, d4] }
  | _ => none }
def faultTryRow : OpenClaim := { program := "ytpjccbbemhjgbaa", sum := "b05b866945f47ea7843815a8acd0a1a282e90fdb640246fb8a1ff536b7b61139", func := "repartee/reparteelaw35.FaultTry", spec := "faultTry", unfollowed := true, recurses := true, apart := false }
def FaultTrySaid : Prop := faultTryRow.holds Try.pinned (OpenSpec.ofChange faultTrySpec)

/-- ITS FALSE NEIGHBOUR: 'it returns false'. Refute it at one input. -/
def faultTryWrong : ChangeSpec := { name := "faultTry", fn := fun _ => fun
  | [d1, d2, d3, d4] => { results := [.lit (.bool false)], args := [d1, d2, d3, d4] }
  | _ => none }
def FaultTryWrongFalsely : Prop := faultTryRow.holds Try.pinned (OpenSpec.ofChange faultTryWrong)

/-- 'reparteelaw35.FaultRuns': WHATEVER THE INPUT: true; the input reads as it did. -/
def faultRunsSpec : ChangeSpec := { name := "faultRuns", fn := fun _ => fun
  | [d1, d2] => { results := [.lit (.bool true)], args := [d1, d2] }
  | _ => none }
def faultRunsRow : OpenClaim := { program := "ytpjccbbemhjgbaa", sum := "b05b866945f47ea7843815a8acd0a1a282e90fdb640246fb8a1ff536b7b61139", func := "repartee/reparteelaw35.FaultRuns", spec := "faultRuns", inPlace := ["internal/abi.NoEscape", "internal/bytealg.MakeNoZero"], unfollowed := true, recurses := true, apart := false }
def FaultRunsSaid : Prop := faultRunsRow.holds Try.pinned (OpenSpec.ofChange faultRunsSpec)

/-- ITS FALSE NEIGHBOUR: 'it returns false'. Refute it at one input. -/
def faultRunsWrong : ChangeSpec := { name := "faultRuns", fn := fun _ => fun
  | [d1, d2] => { results := [.lit (.bool false)], args := [d1, d2] }
  | _ => none }
def FaultRunsWrongFalsely : Prop := faultRunsRow.holds Try.pinned (OpenSpec.ofChange faultRunsWrong)

/-- 'reparteelaw35.FaultSmall': WHATEVER THE INPUT: true; the input reads as it did. -/
def faultSmallSpec : ChangeSpec := { name := "faultSmall", fn := fun _ => fun
  | [] => { results := [.lit (.bool true)], args := [] }
  | _ => none }
def faultSmallRow : OpenClaim := { program := "ytpjccbbemhjgbaa", sum := "b05b866945f47ea7843815a8acd0a1a282e90fdb640246fb8a1ff536b7b61139", func := "repartee/reparteelaw35.FaultSmall", spec := "faultSmall", inPlace := ["internal/abi.NoEscape", "internal/bytealg.MakeNoZero"], unfollowed := true, recurses := true, apart := false }
def FaultSmallSaid : Prop := faultSmallRow.holds Try.pinned (OpenSpec.ofChange faultSmallSpec)

/-- ITS FALSE NEIGHBOUR: 'it returns false'. Refute it at one input. -/
def faultSmallWrong : ChangeSpec := { name := "faultSmall", fn := fun _ => fun
  | [] => { results := [.lit (.bool false)], args := [] }
  | _ => none }
def FaultSmallWrongFalsely : Prop := faultSmallRow.holds Try.pinned (OpenSpec.ofChange faultSmallWrong)

/-- 'reparteelaw35.FaultFits': WHATEVER THE INPUT: true; the input reads as it did. -/
def faultFitsSpec : ChangeSpec := { name := "faultFits", fn := fun _ => fun
  | [d1, d2] => { results := [.lit (.bool true)], args := [d1, d2] }
  | _ => none }
def faultFitsRow : OpenClaim := { program := "ytpjccbbemhjgbaa", sum := "b05b866945f47ea7843815a8acd0a1a282e90fdb640246fb8a1ff536b7b61139", func := "repartee/reparteelaw35.FaultFits", spec := "faultFits", unfollowed := true, recurses := true, apart := false }
def FaultFitsSaid : Prop := faultFitsRow.holds Try.pinned (OpenSpec.ofChange faultFitsSpec)

/-- ITS FALSE NEIGHBOUR: 'it returns false'. Refute it at one input. -/
def faultFitsWrong : ChangeSpec := { name := "faultFits", fn := fun _ => fun
  | [d1, d2] => { results := [.lit (.bool false)], args := [d1, d2] }
  | _ => none }
def FaultFitsWrongFalsely : Prop := faultFitsRow.holds Try.pinned (OpenSpec.ofChange faultFitsWrong)

/-- 'reparteelaw35.FaultOrder': WHATEVER THE INPUT: true; the input reads as it did. -/
def faultOrderSpec : ChangeSpec := { name := "faultOrder", fn := fun _ => fun
  | [d1, d2, d3] => { results := [.lit (.bool true)], args := [d1, d2, d3] }
  | _ => none }
def faultOrderRow : OpenClaim := { program := "ytpjccbbemhjgbaa", sum := "b05b866945f47ea7843815a8acd0a1a282e90fdb640246fb8a1ff536b7b61139", func := "repartee/reparteelaw35.FaultOrder", spec := "faultOrder", unfollowed := true, recurses := true, apart := false }
def FaultOrderSaid : Prop := faultOrderRow.holds Try.pinned (OpenSpec.ofChange faultOrderSpec)

/-- ITS FALSE NEIGHBOUR: 'it returns false'. Refute it at one input. -/
def faultOrderWrong : ChangeSpec := { name := "faultOrder", fn := fun _ => fun
  | [d1, d2, d3] => { results := [.lit (.bool false)], args := [d1, d2, d3] }
  | _ => none }
def FaultOrderWrongFalsely : Prop := faultOrderRow.holds Try.pinned (OpenSpec.ofChange faultOrderWrong)

/-- 'reparteelaw35.FaultFuel': WHATEVER THE INPUT: true; the input reads as it did. -/
def faultFuelSpec : ChangeSpec := { name := "faultFuel", fn := fun _ => fun
  | [d1, d2] => { results := [.lit (.bool true)], args := [d1, d2] }
  | _ => none }
def faultFuelRow : OpenClaim := { program := "ytpjccbbemhjgbaa", sum := "b05b866945f47ea7843815a8acd0a1a282e90fdb640246fb8a1ff536b7b61139", func := "repartee/reparteelaw35.FaultFuel", spec := "faultFuel", unfollowed := true, recurses := true, apart := false }
def FaultFuelSaid : Prop := faultFuelRow.holds Try.pinned (OpenSpec.ofChange faultFuelSpec)

/-- ITS FALSE NEIGHBOUR: 'it returns false'. Refute it at one input. -/
def faultFuelWrong : ChangeSpec := { name := "faultFuel", fn := fun _ => fun
  | [d1, d2] => { results := [.lit (.bool false)], args := [d1, d2] }
  | _ => none }
def FaultFuelWrongFalsely : Prop := faultFuelRow.holds Try.pinned (OpenSpec.ofChange faultFuelWrong)

/-- 'reparteelaw35.FaultWorse': WHATEVER THE INPUT: true; the input reads as it did. -/
def faultWorseSpec : ChangeSpec := { name := "faultWorse", fn := fun _ => fun
  | [d1, d2, d3] => { results := [.lit (.bool true)], args := [d1, d2, d3] }
  | _ => none }
def faultWorseRow : OpenClaim := { program := "ytpjccbbemhjgbaa", sum := "b05b866945f47ea7843815a8acd0a1a282e90fdb640246fb8a1ff536b7b61139", func := "repartee/reparteelaw35.FaultWorse", spec := "faultWorse", unfollowed := true, recurses := true, apart := false }
def FaultWorseSaid : Prop := faultWorseRow.holds Try.pinned (OpenSpec.ofChange faultWorseSpec)

/-- ITS FALSE NEIGHBOUR: 'it returns false'. Refute it at one input. -/
def faultWorseWrong : ChangeSpec := { name := "faultWorse", fn := fun _ => fun
  | [d1, d2, d3] => { results := [.lit (.bool false)], args := [d1, d2, d3] }
  | _ => none }
def FaultWorseWrongFalsely : Prop := faultWorseRow.holds Try.pinned (OpenSpec.ofChange faultWorseWrong)

/- THE SECOND FORM. 'bulk': how many values and letters a reading holds, each counted each time it is reached (what is shared counts as often as it is met; a slice's spare places count too). A statement '..UptoSaid' is the law's where the arguments, and the package variables that the reading takes, are together of bulk at most 1048576: NARROWER than '..Said'. Prove '..Said' where nothing that the law and all that it calls make is longer than what came in: it says more and counts as full. Else prove '..UptoSaid'. A law counts once. -/
mutual
def uptoBulk {H : Type} : DataW H → Nat
  | .lit (.string bytes) => bytes.length + 1
  | .lit _ => 1
  | .nil => 1
  | .ptr d => uptoBulk d + 1
  | .slice elems spare => uptoBulkAll elems + uptoBulkAll spare + 1
  | .agg parts => uptoBulkAll parts + 1
  | .iface _ d => uptoBulk d + 1
  | .map entries => uptoBulkEntries entries + 1
  | .held _ => 1
def uptoBulkAll {H : Type} : List (DataW H) → Nat
  | [] => 0
  | d :: r => uptoBulk d + uptoBulkAll r
def uptoBulkEntries {H : Type} : List (Lit × DataW H) → Nat
  | [] => 0
  | x :: r => uptoBulkEntry x + uptoBulkEntries r
def uptoBulkEntry {H : Type} : Lit × DataW H → Nat
  | (.string bytes, d) => bytes.length + uptoBulk d + 1
  | (_, d) => uptoBulk d + 1
 end
def uptoSmall : (H : Type) → List (DataW H) → Bool := fun _ ds => decide (uptoBulkAll ds ≤ 1048576)
def OpenSpec.upto (s : _root_.Go.ChangeSpec) : _root_.Go.OpenSpec := { _root_.Go.OpenSpec.ofChange s with cond := some uptoSmall }

/-- 'reparteelaw35.FaultInner', WHERE WHAT IT READS IS OF BULK AT MOST 1048576: true; the input reads as it did. -/
def faultInnerUptoRow : OpenClaim := { program := "ytpjccbbemhjgbaa", sum := "b05b866945f47ea7843815a8acd0a1a282e90fdb640246fb8a1ff536b7b61139", func := "repartee/reparteelaw35.FaultInner", spec := "faultInner", unfollowed := true, recurses := true, apart := false, narrowed := true }
def FaultInnerUptoSaid : Prop := faultInnerUptoRow.holds Try.pinned (OpenSpec.upto faultInnerSpec)

/-- 'reparteelaw35.FaultTry', WHERE WHAT IT READS IS OF BULK AT MOST 1048576: true; the input reads as it did. -/
def faultTryUptoRow : OpenClaim := { program := "ytpjccbbemhjgbaa", sum := "b05b866945f47ea7843815a8acd0a1a282e90fdb640246fb8a1ff536b7b61139", func := "repartee/reparteelaw35.FaultTry", spec := "faultTry", unfollowed := true, recurses := true, apart := false, narrowed := true }
def FaultTryUptoSaid : Prop := faultTryUptoRow.holds Try.pinned (OpenSpec.upto faultTrySpec)

/-- 'reparteelaw35.FaultRuns', WHERE WHAT IT READS IS OF BULK AT MOST 1048576: true; the input reads as it did. -/
def faultRunsUptoRow : OpenClaim := { program := "ytpjccbbemhjgbaa", sum := "b05b866945f47ea7843815a8acd0a1a282e90fdb640246fb8a1ff536b7b61139", func := "repartee/reparteelaw35.FaultRuns", spec := "faultRuns", inPlace := ["internal/abi.NoEscape", "internal/bytealg.MakeNoZero"], unfollowed := true, recurses := true, apart := false, narrowed := true }
def FaultRunsUptoSaid : Prop := faultRunsUptoRow.holds Try.pinned (OpenSpec.upto faultRunsSpec)

/-- 'reparteelaw35.FaultSmall', WHERE WHAT IT READS IS OF BULK AT MOST 1048576: true; the input reads as it did. -/
def faultSmallUptoRow : OpenClaim := { program := "ytpjccbbemhjgbaa", sum := "b05b866945f47ea7843815a8acd0a1a282e90fdb640246fb8a1ff536b7b61139", func := "repartee/reparteelaw35.FaultSmall", spec := "faultSmall", inPlace := ["internal/abi.NoEscape", "internal/bytealg.MakeNoZero"], unfollowed := true, recurses := true, apart := false, narrowed := true }
def FaultSmallUptoSaid : Prop := faultSmallUptoRow.holds Try.pinned (OpenSpec.upto faultSmallSpec)

/-- 'reparteelaw35.FaultFits', WHERE WHAT IT READS IS OF BULK AT MOST 1048576: true; the input reads as it did. -/
def faultFitsUptoRow : OpenClaim := { program := "ytpjccbbemhjgbaa", sum := "b05b866945f47ea7843815a8acd0a1a282e90fdb640246fb8a1ff536b7b61139", func := "repartee/reparteelaw35.FaultFits", spec := "faultFits", unfollowed := true, recurses := true, apart := false, narrowed := true }
def FaultFitsUptoSaid : Prop := faultFitsUptoRow.holds Try.pinned (OpenSpec.upto faultFitsSpec)

/-- 'reparteelaw35.FaultOrder', WHERE WHAT IT READS IS OF BULK AT MOST 1048576: true; the input reads as it did. -/
def faultOrderUptoRow : OpenClaim := { program := "ytpjccbbemhjgbaa", sum := "b05b866945f47ea7843815a8acd0a1a282e90fdb640246fb8a1ff536b7b61139", func := "repartee/reparteelaw35.FaultOrder", spec := "faultOrder", unfollowed := true, recurses := true, apart := false, narrowed := true }
def FaultOrderUptoSaid : Prop := faultOrderUptoRow.holds Try.pinned (OpenSpec.upto faultOrderSpec)

/-- 'reparteelaw35.FaultFuel', WHERE WHAT IT READS IS OF BULK AT MOST 1048576: true; the input reads as it did. -/
def faultFuelUptoRow : OpenClaim := { program := "ytpjccbbemhjgbaa", sum := "b05b866945f47ea7843815a8acd0a1a282e90fdb640246fb8a1ff536b7b61139", func := "repartee/reparteelaw35.FaultFuel", spec := "faultFuel", unfollowed := true, recurses := true, apart := false, narrowed := true }
def FaultFuelUptoSaid : Prop := faultFuelUptoRow.holds Try.pinned (OpenSpec.upto faultFuelSpec)

/-- 'reparteelaw35.FaultWorse', WHERE WHAT IT READS IS OF BULK AT MOST 1048576: true; the input reads as it did. -/
def faultWorseUptoRow : OpenClaim := { program := "ytpjccbbemhjgbaa", sum := "b05b866945f47ea7843815a8acd0a1a282e90fdb640246fb8a1ff536b7b61139", func := "repartee/reparteelaw35.FaultWorse", spec := "faultWorse", unfollowed := true, recurses := true, apart := false, narrowed := true }
def FaultWorseUptoSaid : Prop := faultWorseUptoRow.holds Try.pinned (OpenSpec.upto faultWorseSpec)

end Rows
end Go.Proofs.Ytpjccbbemhjgbaa
