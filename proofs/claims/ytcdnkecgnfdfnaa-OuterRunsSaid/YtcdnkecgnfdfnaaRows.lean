/-
  No cell of these rows narrows 'for every input' (looked for: loops, veiled, ifaces, maps, wideKeys, modest, calm, conditions, laid).
  DERIVED. THE GIVEN ROWS OF THIS SEAT. 5 by the template 'for every input the law returns true; each argument reads behind the call as it read before'; 0 by the template 'total and deterministic' (their statements: YtcdnkecgnfdfnaaTotals.lean).
  GIVEN WITH THE SEED: the statements are not yours to turn. If you find one false, say at which input.
  Laid BY PROGRAM, IN A SANDBOX (cutbox-rows.mjs): the forced cells as the released guide's own fill.sh prints them over the translation 7e917556ebc2da8c… (all of the seat's roots in one cut). By AI agents, Wed Nov 11 2026. No macro, syntax, notation, axiom, sorry.
-/
import Derived.Test.YtcdnkecgnfdfnaaChecked
import GoSem.Claim
import GoSem.ClaimJoined
import GoSem.ClaimMapViews
import Derived.JoinedTies
import Derived.KernelRfl
namespace Go.Proofs.Ytcdnkecgnfdfnaa
/- THE CELL 'sum', in the pinned program and in every row, IS THE sha256 OF THE DUMP (.gsa) THAT YtcdnkecgnfdfnaaProg.lean LOADS. Nothing in Lean hashes anything: it is a label: what it is worth is what the hold of that sum in a sandbox is worth. -/
noncomputable def Try.pinned : Pinned := { name := "ytcdnkecgnfdfnaa", sum := "7e917556ebc2da8c6215c76490cf4d9a23a3ca927443722f51ad8b00723eb89a", checked := Try.checked }
namespace Rows
def none {H : Type} : Left H := { results := [], args := [] }

/-- 'regattalaw10.OuterStill': WHATEVER THE INPUT: true; the input reads as it did. -/
def outerStillSpec : ChangeSpec := { name := "outerStill", fn := fun _ => fun
  | [d1, d2, d3] => { results := [.lit (.bool true)], args := [d1, d2, d3] }
  | _ => none }
def outerStillRow : OpenClaim := { program := "ytcdnkecgnfdfnaa", sum := "7e917556ebc2da8c6215c76490cf4d9a23a3ca927443722f51ad8b00723eb89a", func := "regatta/regattalaw10.OuterStill", spec := "outerStill", inPlace := ["math/bits.Add64", "math/bits.Sub64"], unfollowed := true, recurses := true, apart := false }
def OuterStillSaid : Prop := outerStillRow.holds Try.pinned (OpenSpec.ofChange outerStillSpec)

/-- ITS FALSE NEIGHBOUR: 'it returns false'. Refute it at one input. -/
def outerStillWrong : ChangeSpec := { name := "outerStill", fn := fun _ => fun
  | [d1, d2, d3] => { results := [.lit (.bool false)], args := [d1, d2, d3] }
  | _ => none }
def OuterStillWrongFalsely : Prop := outerStillRow.holds Try.pinned (OpenSpec.ofChange outerStillWrong)

/-- 'regattalaw10.OuterSteps': WHATEVER THE INPUT: true; the input reads as it did. -/
def outerStepsSpec : ChangeSpec := { name := "outerSteps", fn := fun _ => fun
  | [d1, d2, d3] => { results := [.lit (.bool true)], args := [d1, d2, d3] }
  | _ => none }
def outerStepsRow : OpenClaim := { program := "ytcdnkecgnfdfnaa", sum := "7e917556ebc2da8c6215c76490cf4d9a23a3ca927443722f51ad8b00723eb89a", func := "regatta/regattalaw10.OuterSteps", spec := "outerSteps", inPlace := ["math/bits.Add64", "math/bits.Sub64"], unfollowed := true, recurses := true, apart := false }
def OuterStepsSaid : Prop := outerStepsRow.holds Try.pinned (OpenSpec.ofChange outerStepsSpec)

/-- ITS FALSE NEIGHBOUR: 'it returns false'. Refute it at one input. -/
def outerStepsWrong : ChangeSpec := { name := "outerSteps", fn := fun _ => fun
  | [d1, d2, d3] => { results := [.lit (.bool false)], args := [d1, d2, d3] }
  | _ => none }
def OuterStepsWrongFalsely : Prop := outerStepsRow.holds Try.pinned (OpenSpec.ofChange outerStepsWrong)

/-- 'regattalaw10.OuterRuns': WHATEVER THE INPUT: true; the input reads as it did. -/
def outerRunsSpec : ChangeSpec := { name := "outerRuns", fn := fun _ => fun
  | [d1, d2, d3] => { results := [.lit (.bool true)], args := [d1, d2, d3] }
  | _ => none }
def outerRunsRow : OpenClaim := { program := "ytcdnkecgnfdfnaa", sum := "7e917556ebc2da8c6215c76490cf4d9a23a3ca927443722f51ad8b00723eb89a", func := "regatta/regattalaw10.OuterRuns", spec := "outerRuns", inPlace := ["math/bits.Add64", "math/bits.Sub64"], unfollowed := true, recurses := true, apart := false }
def OuterRunsSaid : Prop := outerRunsRow.holds Try.pinned (OpenSpec.ofChange outerRunsSpec)

/-- ITS FALSE NEIGHBOUR: 'it returns false'. Refute it at one input. -/
def outerRunsWrong : ChangeSpec := { name := "outerRuns", fn := fun _ => fun
  | [d1, d2, d3] => { results := [.lit (.bool false)], args := [d1, d2, d3] }
  | _ => none }
def OuterRunsWrongFalsely : Prop := outerRunsRow.holds Try.pinned (OpenSpec.ofChange outerRunsWrong)

/-- 'regattalaw10.OuterDeltas': WHATEVER THE INPUT: true; the input reads as it did. -/
def outerDeltasSpec : ChangeSpec := { name := "outerDeltas", fn := fun _ => fun
  | [d1, d2] => { results := [.lit (.bool true)], args := [d1, d2] }
  | _ => none }
def outerDeltasRow : OpenClaim := { program := "ytcdnkecgnfdfnaa", sum := "7e917556ebc2da8c6215c76490cf4d9a23a3ca927443722f51ad8b00723eb89a", func := "regatta/regattalaw10.OuterDeltas", spec := "outerDeltas", inPlace := ["math/bits.Add64", "math/bits.Sub64"], unfollowed := true, recurses := true, apart := false }
def OuterDeltasSaid : Prop := outerDeltasRow.holds Try.pinned (OpenSpec.ofChange outerDeltasSpec)

/-- ITS FALSE NEIGHBOUR: 'it returns false'. Refute it at one input. -/
def outerDeltasWrong : ChangeSpec := { name := "outerDeltas", fn := fun _ => fun
  | [d1, d2] => { results := [.lit (.bool false)], args := [d1, d2] }
  | _ => none }
def OuterDeltasWrongFalsely : Prop := outerDeltasRow.holds Try.pinned (OpenSpec.ofChange outerDeltasWrong)

/-- 'regattalaw10.OuterOne': WHATEVER THE INPUT: true; the input reads as it did. -/
def outerOneSpec : ChangeSpec := { name := "outerOne", fn := fun _ => fun
  | [d1, d2] => { results := [.lit (.bool true)], args := [d1, d2] }
  | _ => none }
def outerOneRow : OpenClaim := { program := "ytcdnkecgnfdfnaa", sum := "7e917556ebc2da8c6215c76490cf4d9a23a3ca927443722f51ad8b00723eb89a", func := "regatta/regattalaw10.OuterOne", spec := "outerOne", inPlace := ["math/bits.Add64", "math/bits.Sub64"], unfollowed := true, recurses := true, apart := false }
def OuterOneSaid : Prop := outerOneRow.holds Try.pinned (OpenSpec.ofChange outerOneSpec)

/-- ITS FALSE NEIGHBOUR: 'it returns false'. Refute it at one input. -/
def outerOneWrong : ChangeSpec := { name := "outerOne", fn := fun _ => fun
  | [d1, d2] => { results := [.lit (.bool false)], args := [d1, d2] }
  | _ => none }
def OuterOneWrongFalsely : Prop := outerOneRow.holds Try.pinned (OpenSpec.ofChange outerOneWrong)

/- THE SECOND FORM. 'bulk': how many values and letters a reading holds, each counted each time it is reached (what is shared counts as often as it is met; a slice's spare places count too). A statement '..UptoSaid' is the law's where the arguments, and the package variables that the reading takes, are together of bulk at most 1048576: NARROWER than '..Said'. Prove '..Said' where nothing that the law and all that it calls make is longer than what came in: it says more and counts as full. Else prove '..UptoSaid'. A law counts once. -/
mutual
def uptoBulk {H : Type} : DataW H → Nat
  | .lit (.string bytes) => bytes.length + 1
  | .lit _ => 1
  | .nil => 1
  | .ptr d => uptoBulk d + 1
  | .slice elems spare => uptoBulkAll elems + uptoBulkAll spare + 1
  | .agg parts => uptoBulkAll parts + 1
  | .iface _ d => uptoBulk d + 1
  | .map entries => uptoBulkEntries entries + 1
  | .held _ => 1
def uptoBulkAll {H : Type} : List (DataW H) → Nat
  | [] => 0
  | d :: r => uptoBulk d + uptoBulkAll r
def uptoBulkEntries {H : Type} : List (Lit × DataW H) → Nat
  | [] => 0
  | x :: r => uptoBulkEntry x + uptoBulkEntries r
def uptoBulkEntry {H : Type} : Lit × DataW H → Nat
  | (.string bytes, d) => bytes.length + uptoBulk d + 1
  | (_, d) => uptoBulk d + 1
 end
def uptoSmall : (H : Type) → List (DataW H) → Bool := fun _ ds => decide (uptoBulkAll ds ≤ 1048576)
def OpenSpec.upto (s : _root_.Go.ChangeSpec) : _root_.Go.OpenSpec := { _root_.Go.OpenSpec.ofChange s with cond := some uptoSmall }

/-- 'regattalaw10.OuterStill', WHERE WHAT IT READS IS OF BULK AT MOST 1048576: true; the input reads as it did. -/
def outerStillUptoRow : OpenClaim := { program := "ytcdnkecgnfdfnaa", sum := "7e917556ebc2da8c6215c76490cf4d9a23a3ca927443722f51ad8b00723eb89a", func := "regatta/regattalaw10.OuterStill", spec := "outerStill", inPlace := ["math/bits.Add64", "math/bits.Sub64"], unfollowed := true, recurses := true, apart := false, narrowed := true }
def OuterStillUptoSaid : Prop := outerStillUptoRow.holds Try.pinned (OpenSpec.upto outerStillSpec)

/-- 'regattalaw10.OuterSteps', WHERE WHAT IT READS IS OF BULK AT MOST 1048576: true; the input reads as it did. -/
def outerStepsUptoRow : OpenClaim := { program := "ytcdnkecgnfdfnaa", sum := "7e917556ebc2da8c6215c76490cf4d9a23a3ca927443722f51ad8b00723eb89a", func := "regatta/regattalaw10.OuterSteps", spec := "outerSteps", inPlace := ["math/bits.Add64", "math/bits.Sub64"], unfollowed := true, recurses := true, apart := false, narrowed := true }
def OuterStepsUptoSaid : Prop := outerStepsUptoRow.holds Try.pinned (OpenSpec.upto outerStepsSpec)

/-- 'regattalaw10.OuterRuns', WHERE WHAT IT READS IS OF BULK AT MOST 1048576: true; the input reads as it did. -/
def outerRunsUptoRow : OpenClaim := { program := "ytcdnkecgnfdfnaa", sum := "7e917556ebc2da8c6215c76490cf4d9a23a3ca927443722f51ad8b00723eb89a", func := "regatta/regattalaw10.OuterRuns", spec := "outerRuns", inPlace := ["math/bits.Add64", "math/bits.Sub64"], unfollowed := true, recurses := true, apart := false, narrowed := true }
def OuterRunsUptoSaid : Prop := outerRunsUptoRow.holds Try.pinned (OpenSpec.upto outerRunsSpec)

/-- 'regattalaw10.OuterDeltas', WHERE WHAT IT READS IS OF BULK AT MOST 1048576: true; the input reads as it did. -/
def outerDeltasUptoRow : OpenClaim := { program := "ytcdnkecgnfdfnaa", sum := "7e917556ebc2da8c6215c76490cf4d9a23a3ca927443722f51ad8b00723eb89a", func := "regatta/regattalaw10.OuterDeltas", spec := "outerDeltas", inPlace := ["math/bits.Add64", "math/bits.Sub64"], unfollowed := true, recurses := true, apart := false, narrowed := true }
def OuterDeltasUptoSaid : Prop := outerDeltasUptoRow.holds Try.pinned (OpenSpec.upto outerDeltasSpec)

/-- 'regattalaw10.OuterOne', WHERE WHAT IT READS IS OF BULK AT MOST 1048576: true; the input reads as it did. -/
def outerOneUptoRow : OpenClaim := { program := "ytcdnkecgnfdfnaa", sum := "7e917556ebc2da8c6215c76490cf4d9a23a3ca927443722f51ad8b00723eb89a", func := "regatta/regattalaw10.OuterOne", spec := "outerOne", inPlace := ["math/bits.Add64", "math/bits.Sub64"], unfollowed := true, recurses := true, apart := false, narrowed := true }
def OuterOneUptoSaid : Prop := outerOneUptoRow.holds Try.pinned (OpenSpec.upto outerOneSpec)

end Rows
end Go.Proofs.Ytcdnkecgnfdfnaa
