/-
  No cell of these rows narrows 'for every input' (looked for: loops, veiled, ifaces, maps, wideKeys, modest, calm, conditions, laid).
  DERIVED. THE GIVEN ROWS OF THIS SEAT. 7 by the template 'for every input the law returns true; each argument reads behind the call as it read before'; 0 by the template 'total and deterministic' (their statements: YtfpeekdjdapcdaaTotals.lean).
  GIVEN WITH THE SEED: the statements are not yours to turn. If you find one false, say at which input.
  Laid BY PROGRAM, IN A SANDBOX (cutbox-rows.mjs): the forced cells as the released guide's own fill.sh prints them over the translation a4334ff497d1d315… (all of the seat's roots in one cut). By AI agents, Wed Nov 11 2026. No macro, syntax, notation, axiom, sorry.
-/
import Derived.Test.YtfpeekdjdapcdaaChecked
import GoSem.Claim
import GoSem.ClaimJoined
import GoSem.ClaimMapViews
import Derived.JoinedTies
import Derived.KernelRfl
namespace Go.Proofs.Ytfpeekdjdapcdaa
/- THE CELL 'sum', in the pinned program and in every row, IS THE sha256 OF THE DUMP (.gsa) THAT YtfpeekdjdapcdaaProg.lean LOADS. Nothing in Lean hashes anything: it is a label: what it is worth is what the hold of that sum in a sandbox is worth. -/
noncomputable def Try.pinned : Pinned := { name := "ytfpeekdjdapcdaa", sum := "a4334ff497d1d3156481359cdc9f27a178815f972576bf884f69863c04f28d4b", checked := Try.checked }
namespace Rows
def none {H : Type} : Left H := { results := [], args := [] }

/-- 'regattalaw08.SchedRates': WHATEVER THE INPUT: true; the input reads as it did. -/
def schedRatesSpec : ChangeSpec := { name := "schedRates", fn := fun _ => fun
  | [d1, d2] => { results := [.lit (.bool true)], args := [d1, d2] }
  | _ => none }
def schedRatesRow : OpenClaim := { program := "ytfpeekdjdapcdaa", sum := "a4334ff497d1d3156481359cdc9f27a178815f972576bf884f69863c04f28d4b", func := "regatta/regattalaw08.SchedRates", spec := "schedRates", inPlace := ["math/bits.Sub64", "math/bits.Add64"], unfollowed := true, recurses := true, named := ["math/bits.divideError", "math/bits.overflowError"], apart := false }
def SchedRatesSaid : Prop := schedRatesRow.holds Try.pinned (OpenSpec.ofChange schedRatesSpec)

/-- ITS FALSE NEIGHBOUR: 'it returns false'. Refute it at one input. -/
def schedRatesWrong : ChangeSpec := { name := "schedRates", fn := fun _ => fun
  | [d1, d2] => { results := [.lit (.bool false)], args := [d1, d2] }
  | _ => none }
def SchedRatesWrongFalsely : Prop := schedRatesRow.holds Try.pinned (OpenSpec.ofChange schedRatesWrong)

/-- 'regattalaw08.SchedSteps': WHATEVER THE INPUT: true; the input reads as it did. -/
def schedStepsSpec : ChangeSpec := { name := "schedSteps", fn := fun _ => fun
  | [d1, d2] => { results := [.lit (.bool true)], args := [d1, d2] }
  | _ => none }
def schedStepsRow : OpenClaim := { program := "ytfpeekdjdapcdaa", sum := "a4334ff497d1d3156481359cdc9f27a178815f972576bf884f69863c04f28d4b", func := "regatta/regattalaw08.SchedSteps", spec := "schedSteps", inPlace := ["math/bits.Sub64", "math/bits.Add64"], unfollowed := true, recurses := true, named := ["math/bits.divideError", "math/bits.overflowError"], apart := false }
def SchedStepsSaid : Prop := schedStepsRow.holds Try.pinned (OpenSpec.ofChange schedStepsSpec)

/-- ITS FALSE NEIGHBOUR: 'it returns false'. Refute it at one input. -/
def schedStepsWrong : ChangeSpec := { name := "schedSteps", fn := fun _ => fun
  | [d1, d2] => { results := [.lit (.bool false)], args := [d1, d2] }
  | _ => none }
def SchedStepsWrongFalsely : Prop := schedStepsRow.holds Try.pinned (OpenSpec.ofChange schedStepsWrong)

/-- 'regattalaw08.SchedWarms': WHATEVER THE INPUT: true; the input reads as it did. -/
def schedWarmsSpec : ChangeSpec := { name := "schedWarms", fn := fun _ => fun
  | [d1, d2] => { results := [.lit (.bool true)], args := [d1, d2] }
  | _ => none }
def schedWarmsRow : OpenClaim := { program := "ytfpeekdjdapcdaa", sum := "a4334ff497d1d3156481359cdc9f27a178815f972576bf884f69863c04f28d4b", func := "regatta/regattalaw08.SchedWarms", spec := "schedWarms", inPlace := ["math/bits.Sub64", "math/bits.Add64"], unfollowed := true, recurses := true, named := ["math/bits.divideError", "math/bits.overflowError"], apart := false }
def SchedWarmsSaid : Prop := schedWarmsRow.holds Try.pinned (OpenSpec.ofChange schedWarmsSpec)

/-- ITS FALSE NEIGHBOUR: 'it returns false'. Refute it at one input. -/
def schedWarmsWrong : ChangeSpec := { name := "schedWarms", fn := fun _ => fun
  | [d1, d2] => { results := [.lit (.bool false)], args := [d1, d2] }
  | _ => none }
def SchedWarmsWrongFalsely : Prop := schedWarmsRow.holds Try.pinned (OpenSpec.ofChange schedWarmsWrong)

/-- 'regattalaw08.SchedTimes': WHATEVER THE INPUT: true; the input reads as it did. -/
def schedTimesSpec : ChangeSpec := { name := "schedTimes", fn := fun _ => fun
  | [d1, d2] => { results := [.lit (.bool true)], args := [d1, d2] }
  | _ => none }
def schedTimesRow : OpenClaim := { program := "ytfpeekdjdapcdaa", sum := "a4334ff497d1d3156481359cdc9f27a178815f972576bf884f69863c04f28d4b", func := "regatta/regattalaw08.SchedTimes", spec := "schedTimes", inPlace := ["math/bits.Sub64", "math/bits.Add64"], unfollowed := true, recurses := true, named := ["math/bits.divideError", "math/bits.overflowError"], apart := false }
def SchedTimesSaid : Prop := schedTimesRow.holds Try.pinned (OpenSpec.ofChange schedTimesSpec)

/-- ITS FALSE NEIGHBOUR: 'it returns false'. Refute it at one input. -/
def schedTimesWrong : ChangeSpec := { name := "schedTimes", fn := fun _ => fun
  | [d1, d2] => { results := [.lit (.bool false)], args := [d1, d2] }
  | _ => none }
def SchedTimesWrongFalsely : Prop := schedTimesRow.holds Try.pinned (OpenSpec.ofChange schedTimesWrong)

/-- 'regattalaw08.SchedPowers': WHATEVER THE INPUT: true; the input reads as it did. -/
def schedPowersSpec : ChangeSpec := { name := "schedPowers", fn := fun _ => fun
  | [d1, d2] => { results := [.lit (.bool true)], args := [d1, d2] }
  | _ => none }
def schedPowersRow : OpenClaim := { program := "ytfpeekdjdapcdaa", sum := "a4334ff497d1d3156481359cdc9f27a178815f972576bf884f69863c04f28d4b", func := "regatta/regattalaw08.SchedPowers", spec := "schedPowers", inPlace := ["math/bits.Sub64", "math/bits.Add64"], unfollowed := true, recurses := true, named := ["math/bits.divideError", "math/bits.overflowError"], apart := false }
def SchedPowersSaid : Prop := schedPowersRow.holds Try.pinned (OpenSpec.ofChange schedPowersSpec)

/-- ITS FALSE NEIGHBOUR: 'it returns false'. Refute it at one input. -/
def schedPowersWrong : ChangeSpec := { name := "schedPowers", fn := fun _ => fun
  | [d1, d2] => { results := [.lit (.bool false)], args := [d1, d2] }
  | _ => none }
def SchedPowersWrongFalsely : Prop := schedPowersRow.holds Try.pinned (OpenSpec.ofChange schedPowersWrong)

/-- 'regattalaw08.SchedPaces': WHATEVER THE INPUT: true; the input reads as it did. -/
def schedPacesSpec : ChangeSpec := { name := "schedPaces", fn := fun _ => fun
  | [d1, d2, d3] => { results := [.lit (.bool true)], args := [d1, d2, d3] }
  | _ => none }
def schedPacesRow : OpenClaim := { program := "ytfpeekdjdapcdaa", sum := "a4334ff497d1d3156481359cdc9f27a178815f972576bf884f69863c04f28d4b", func := "regatta/regattalaw08.SchedPaces", spec := "schedPaces", inPlace := ["math/bits.Sub64", "math/bits.Add64"], unfollowed := true, recurses := true, named := ["math/bits.divideError", "math/bits.overflowError"], apart := false }
def SchedPacesSaid : Prop := schedPacesRow.holds Try.pinned (OpenSpec.ofChange schedPacesSpec)

/-- ITS FALSE NEIGHBOUR: 'it returns false'. Refute it at one input. -/
def schedPacesWrong : ChangeSpec := { name := "schedPaces", fn := fun _ => fun
  | [d1, d2, d3] => { results := [.lit (.bool false)], args := [d1, d2, d3] }
  | _ => none }
def SchedPacesWrongFalsely : Prop := schedPacesRow.holds Try.pinned (OpenSpec.ofChange schedPacesWrong)

/-- 'regattalaw08.SchedBounds': WHATEVER THE INPUT: true; the input reads as it did. -/
def schedBoundsSpec : ChangeSpec := { name := "schedBounds", fn := fun _ => fun
  | [d1, d2] => { results := [.lit (.bool true)], args := [d1, d2] }
  | _ => none }
def schedBoundsRow : OpenClaim := { program := "ytfpeekdjdapcdaa", sum := "a4334ff497d1d3156481359cdc9f27a178815f972576bf884f69863c04f28d4b", func := "regatta/regattalaw08.SchedBounds", spec := "schedBounds", inPlace := ["math/bits.Sub64", "math/bits.Add64"], unfollowed := true, recurses := true, named := ["math/bits.divideError", "math/bits.overflowError"], apart := false }
def SchedBoundsSaid : Prop := schedBoundsRow.holds Try.pinned (OpenSpec.ofChange schedBoundsSpec)

/-- ITS FALSE NEIGHBOUR: 'it returns false'. Refute it at one input. -/
def schedBoundsWrong : ChangeSpec := { name := "schedBounds", fn := fun _ => fun
  | [d1, d2] => { results := [.lit (.bool false)], args := [d1, d2] }
  | _ => none }
def SchedBoundsWrongFalsely : Prop := schedBoundsRow.holds Try.pinned (OpenSpec.ofChange schedBoundsWrong)

/- THE SECOND FORM. 'bulk': how many values and letters a reading holds, each counted each time it is reached (what is shared counts as often as it is met; a slice's spare places count too). A statement '..UptoSaid' is the law's where the arguments, and the package variables that the reading takes, are together of bulk at most 1048576: NARROWER than '..Said'. Prove '..Said' where nothing that the law and all that it calls make is longer than what came in: it says more and counts as full. Else prove '..UptoSaid'. A law counts once. -/
mutual
def uptoBulk {H : Type} : DataW H → Nat
  | .lit (.string bytes) => bytes.length + 1
  | .lit _ => 1
  | .nil => 1
  | .ptr d => uptoBulk d + 1
  | .slice elems spare => uptoBulkAll elems + uptoBulkAll spare + 1
  | .agg parts => uptoBulkAll parts + 1
  | .iface _ d => uptoBulk d + 1
  | .map entries => uptoBulkEntries entries + 1
  | .held _ => 1
def uptoBulkAll {H : Type} : List (DataW H) → Nat
  | [] => 0
  | d :: r => uptoBulk d + uptoBulkAll r
def uptoBulkEntries {H : Type} : List (Lit × DataW H) → Nat
  | [] => 0
  | x :: r => uptoBulkEntry x + uptoBulkEntries r
def uptoBulkEntry {H : Type} : Lit × DataW H → Nat
  | (.string bytes, d) => bytes.length + uptoBulk d + 1
  | (_, d) => uptoBulk d + 1
 end
def uptoSmall : (H : Type) → List (DataW H) → Bool := fun _ ds => decide (uptoBulkAll ds ≤ 1048576)
def OpenSpec.upto (s : _root_.Go.ChangeSpec) : _root_.Go.OpenSpec := { _root_.Go.OpenSpec.ofChange s with cond := some uptoSmall }

/-- 'regattalaw08.SchedRates', WHERE WHAT IT READS IS OF BULK AT MOST 1048576: true; the input reads as it did. -/
def schedRatesUptoRow : OpenClaim := { program := "ytfpeekdjdapcdaa", sum := "a4334ff497d1d3156481359cdc9f27a178815f972576bf884f69863c04f28d4b", func := "regatta/regattalaw08.SchedRates", spec := "schedRates", inPlace := ["math/bits.Sub64", "math/bits.Add64"], unfollowed := true, recurses := true, named := ["math/bits.divideError", "math/bits.overflowError"], apart := false, narrowed := true }
def SchedRatesUptoSaid : Prop := schedRatesUptoRow.holds Try.pinned (OpenSpec.upto schedRatesSpec)

/-- 'regattalaw08.SchedSteps', WHERE WHAT IT READS IS OF BULK AT MOST 1048576: true; the input reads as it did. -/
def schedStepsUptoRow : OpenClaim := { program := "ytfpeekdjdapcdaa", sum := "a4334ff497d1d3156481359cdc9f27a178815f972576bf884f69863c04f28d4b", func := "regatta/regattalaw08.SchedSteps", spec := "schedSteps", inPlace := ["math/bits.Sub64", "math/bits.Add64"], unfollowed := true, recurses := true, named := ["math/bits.divideError", "math/bits.overflowError"], apart := false, narrowed := true }
def SchedStepsUptoSaid : Prop := schedStepsUptoRow.holds Try.pinned (OpenSpec.upto schedStepsSpec)

/-- 'regattalaw08.SchedWarms', WHERE WHAT IT READS IS OF BULK AT MOST 1048576: true; the input reads as it did. -/
def schedWarmsUptoRow : OpenClaim := { program := "ytfpeekdjdapcdaa", sum := "a4334ff497d1d3156481359cdc9f27a178815f972576bf884f69863c04f28d4b", func := "regatta/regattalaw08.SchedWarms", spec := "schedWarms", inPlace := ["math/bits.Sub64", "math/bits.Add64"], unfollowed := true, recurses := true, named := ["math/bits.divideError", "math/bits.overflowError"], apart := false, narrowed := true }
def SchedWarmsUptoSaid : Prop := schedWarmsUptoRow.holds Try.pinned (OpenSpec.upto schedWarmsSpec)

/-- 'regattalaw08.SchedTimes', WHERE WHAT IT READS IS OF BULK AT MOST 1048576: true; the input reads as it did. -/
def schedTimesUptoRow : OpenClaim := { program := "ytfpeekdjdapcdaa", sum := "a4334ff497d1d3156481359cdc9f27a178815f972576bf884f69863c04f28d4b", func := "regatta/regattalaw08.SchedTimes", spec := "schedTimes", inPlace := ["math/bits.Sub64", "math/bits.Add64"], unfollowed := true, recurses := true, named := ["math/bits.divideError", "math/bits.overflowError"], apart := false, narrowed := true }
def SchedTimesUptoSaid : Prop := schedTimesUptoRow.holds Try.pinned (OpenSpec.upto schedTimesSpec)

/-- 'regattalaw08.SchedPowers', WHERE WHAT IT READS IS OF BULK AT MOST 1048576: true; the input reads as it did. -/
def schedPowersUptoRow : OpenClaim := { program := "ytfpeekdjdapcdaa", sum := "a4334ff497d1d3156481359cdc9f27a178815f972576bf884f69863c04f28d4b", func := "regatta/regattalaw08.SchedPowers", spec := "schedPowers", inPlace := ["math/bits.Sub64", "math/bits.Add64"], unfollowed := true, recurses := true, named := ["math/bits.divideError", "math/bits.overflowError"], apart := false, narrowed := true }
def SchedPowersUptoSaid : Prop := schedPowersUptoRow.holds Try.pinned (OpenSpec.upto schedPowersSpec)

/-- 'regattalaw08.SchedPaces', WHERE WHAT IT READS IS OF BULK AT MOST 1048576: true; the input reads as it did. -/
def schedPacesUptoRow : OpenClaim := { program := "ytfpeekdjdapcdaa", sum := "a4334ff497d1d3156481359cdc9f27a178815f972576bf884f69863c04f28d4b", func := "regatta/regattalaw08.SchedPaces", spec := "schedPaces", inPlace := ["math/bits.Sub64", "math/bits.Add64"], unfollowed := true, recurses := true, named := ["math/bits.divideError", "math/bits.overflowError"], apart := false, narrowed := true }
def SchedPacesUptoSaid : Prop := schedPacesUptoRow.holds Try.pinned (OpenSpec.upto schedPacesSpec)

/-- 'regattalaw08.SchedBounds', WHERE WHAT IT READS IS OF BULK AT MOST 1048576: true; the input reads as it did. -/
def schedBoundsUptoRow : OpenClaim := { program := "ytfpeekdjdapcdaa", sum := "a4334ff497d1d3156481359cdc9f27a178815f972576bf884f69863c04f28d4b", func := "regatta/regattalaw08.SchedBounds", spec := "schedBounds", inPlace := ["math/bits.Sub64", "math/bits.Add64"], unfollowed := true, recurses := true, named := ["math/bits.divideError", "math/bits.overflowError"], apart := false, narrowed := true }
def SchedBoundsUptoSaid : Prop := schedBoundsUptoRow.holds Try.pinned (OpenSpec.upto schedBoundsSpec)

end Rows
end Go.Proofs.Ytfpeekdjdapcdaa
