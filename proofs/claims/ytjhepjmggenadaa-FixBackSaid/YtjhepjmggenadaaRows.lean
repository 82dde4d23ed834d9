/-
  No cell of these rows narrows 'for every input' (looked for: loops, veiled, ifaces, maps, wideKeys, modest, calm, conditions, laid).
  DERIVED. THE GIVEN ROWS OF THIS SEAT. 14 by the template 'for every input the law returns true; each argument reads behind the call as it read before'; 0 by the template 'total and deterministic' (their statements: YtjhepjmggenadaaTotals.lean).
  GIVEN WITH THE SEED: the statements are not yours to turn. If you find one false, say at which input.
  Laid BY PROGRAM, IN A SANDBOX (cutbox-rows.mjs): the forced cells as the released guide's own fill.sh prints them over the translation 7f6f7a6f5d993b16… (all of the seat's roots in one cut). By AI agents, Wed Nov 11 2026. No macro, syntax, notation, axiom, sorry.
-/
import Derived.Test.YtjhepjmggenadaaChecked
import GoSem.Claim
import GoSem.ClaimJoined
import GoSem.ClaimMapViews
import Derived.JoinedTies
import Derived.KernelRfl
namespace Go.Proofs.Ytjhepjmggenadaa
/- THE CELL 'sum', in the pinned program and in every row, IS THE sha256 OF THE DUMP (.gsa) THAT YtjhepjmggenadaaProg.lean LOADS. Nothing in Lean hashes anything: it is a label: what it is worth is what the hold of that sum in a sandbox is worth. -/
noncomputable def Try.pinned : Pinned := { name := "ytjhepjmggenadaa", sum := "7f6f7a6f5d993b1609c570324425bcd799a6f7101a69d13e64048a1bba91ff73", checked := Try.checked }
namespace Rows
def none {H : Type} : Left H := { results := [], args := [] }

/-- 'regattalaw02.FixRoots': WHATEVER THE INPUT: true; the input reads as it did. -/
def fixRootsSpec : ChangeSpec := { name := "fixRoots", fn := fun _ => fun
  | [d] => { results := [.lit (.bool true)], args := [d] }
  | _ => none }
def fixRootsRow : OpenClaim := { program := "ytjhepjmggenadaa", sum := "7f6f7a6f5d993b1609c570324425bcd799a6f7101a69d13e64048a1bba91ff73", func := "regatta/regattalaw02.FixRoots", spec := "fixRoots", inPlace := ["math/bits.Add64", "math/bits.Sub64", "math.Float64bits", "math.Float64frombits"], apart := false }
def FixRootsSaid : Prop := fixRootsRow.holds Try.pinned (OpenSpec.ofChange fixRootsSpec)

/-- ITS FALSE NEIGHBOUR: 'it returns false'. Refute it at one input. -/
def fixRootsWrong : ChangeSpec := { name := "fixRoots", fn := fun _ => fun
  | [d] => { results := [.lit (.bool false)], args := [d] }
  | _ => none }
def FixRootsWrongFalsely : Prop := fixRootsRow.holds Try.pinned (OpenSpec.ofChange fixRootsWrong)

/-- 'regattalaw02.FixFloats': WHATEVER THE INPUT: true; the input reads as it did. -/
def fixFloatsSpec : ChangeSpec := { name := "fixFloats", fn := fun _ => fun
  | [d] => { results := [.lit (.bool true)], args := [d] }
  | _ => none }
def fixFloatsRow : OpenClaim := { program := "ytjhepjmggenadaa", sum := "7f6f7a6f5d993b1609c570324425bcd799a6f7101a69d13e64048a1bba91ff73", func := "regatta/regattalaw02.FixFloats", spec := "fixFloats", inPlace := ["math/bits.Add64", "math/bits.Sub64", "math.Float64bits", "math.Float64frombits"], apart := false }
def FixFloatsSaid : Prop := fixFloatsRow.holds Try.pinned (OpenSpec.ofChange fixFloatsSpec)

/-- ITS FALSE NEIGHBOUR: 'it returns false'. Refute it at one input. -/
def fixFloatsWrong : ChangeSpec := { name := "fixFloats", fn := fun _ => fun
  | [d] => { results := [.lit (.bool false)], args := [d] }
  | _ => none }
def FixFloatsWrongFalsely : Prop := fixFloatsRow.holds Try.pinned (OpenSpec.ofChange fixFloatsWrong)

/-- 'regattalaw02.FixRises': WHATEVER THE INPUT: true; the input reads as it did. -/
def fixRisesSpec : ChangeSpec := { name := "fixRises", fn := fun _ => fun
  | [d1, d2, d3] => { results := [.lit (.bool true)], args := [d1, d2, d3] }
  | _ => none }
def fixRisesRow : OpenClaim := { program := "ytjhepjmggenadaa", sum := "7f6f7a6f5d993b1609c570324425bcd799a6f7101a69d13e64048a1bba91ff73", func := "regatta/regattalaw02.FixRises", spec := "fixRises", inPlace := ["math/bits.Add64", "math/bits.Sub64", "math.Float64bits", "math.Float64frombits"], apart := false }
def FixRisesSaid : Prop := fixRisesRow.holds Try.pinned (OpenSpec.ofChange fixRisesSpec)

/-- ITS FALSE NEIGHBOUR: 'it returns false'. Refute it at one input. -/
def fixRisesWrong : ChangeSpec := { name := "fixRises", fn := fun _ => fun
  | [d1, d2, d3] => { results := [.lit (.bool false)], args := [d1, d2, d3] }
  | _ => none }
def FixRisesWrongFalsely : Prop := fixRisesRow.holds Try.pinned (OpenSpec.ofChange fixRisesWrong)

/-- 'regattalaw02.FixHolds': WHATEVER THE INPUT: true; the input reads as it did. -/
def fixHoldsSpec : ChangeSpec := { name := "fixHolds", fn := fun _ => fun
  | [d1, d2] => { results := [.lit (.bool true)], args := [d1, d2] }
  | _ => none }
def fixHoldsRow : OpenClaim := { program := "ytjhepjmggenadaa", sum := "7f6f7a6f5d993b1609c570324425bcd799a6f7101a69d13e64048a1bba91ff73", func := "regatta/regattalaw02.FixHolds", spec := "fixHolds", inPlace := ["math/bits.Add64", "math/bits.Sub64", "math.Float64bits", "math.Float64frombits"], apart := false }
def FixHoldsSaid : Prop := fixHoldsRow.holds Try.pinned (OpenSpec.ofChange fixHoldsSpec)

/-- ITS FALSE NEIGHBOUR: 'it returns false'. Refute it at one input. -/
def fixHoldsWrong : ChangeSpec := { name := "fixHolds", fn := fun _ => fun
  | [d1, d2] => { results := [.lit (.bool false)], args := [d1, d2] }
  | _ => none }
def FixHoldsWrongFalsely : Prop := fixHoldsRow.holds Try.pinned (OpenSpec.ofChange fixHoldsWrong)

/-- 'regattalaw02.FixSquares': WHATEVER THE INPUT: true; the input reads as it did. -/
def fixSquaresSpec : ChangeSpec := { name := "fixSquares", fn := fun _ => fun
  | [d] => { results := [.lit (.bool true)], args := [d] }
  | _ => none }
def fixSquaresRow : OpenClaim := { program := "ytjhepjmggenadaa", sum := "7f6f7a6f5d993b1609c570324425bcd799a6f7101a69d13e64048a1bba91ff73", func := "regatta/regattalaw02.FixSquares", spec := "fixSquares", inPlace := ["math/bits.Add64", "math/bits.Sub64", "math.Float64bits", "math.Float64frombits"], apart := false }
def FixSquaresSaid : Prop := fixSquaresRow.holds Try.pinned (OpenSpec.ofChange fixSquaresSpec)

/-- ITS FALSE NEIGHBOUR: 'it returns false'. Refute it at one input. -/
def fixSquaresWrong : ChangeSpec := { name := "fixSquares", fn := fun _ => fun
  | [d] => { results := [.lit (.bool false)], args := [d] }
  | _ => none }
def FixSquaresWrongFalsely : Prop := fixSquaresRow.holds Try.pinned (OpenSpec.ofChange fixSquaresWrong)

/-- 'regattalaw02.FixProducts': WHATEVER THE INPUT: true; the input reads as it did. -/
def fixProductsSpec : ChangeSpec := { name := "fixProducts", fn := fun _ => fun
  | [d1, d2, d3] => { results := [.lit (.bool true)], args := [d1, d2, d3] }
  | _ => none }
def fixProductsRow : OpenClaim := { program := "ytjhepjmggenadaa", sum := "7f6f7a6f5d993b1609c570324425bcd799a6f7101a69d13e64048a1bba91ff73", func := "regatta/regattalaw02.FixProducts", spec := "fixProducts", inPlace := ["math/bits.Add64", "math/bits.Sub64", "math.Float64bits", "math.Float64frombits"], apart := false }
def FixProductsSaid : Prop := fixProductsRow.holds Try.pinned (OpenSpec.ofChange fixProductsSpec)

/-- ITS FALSE NEIGHBOUR: 'it returns false'. Refute it at one input. -/
def fixProductsWrong : ChangeSpec := { name := "fixProducts", fn := fun _ => fun
  | [d1, d2, d3] => { results := [.lit (.bool false)], args := [d1, d2, d3] }
  | _ => none }
def FixProductsWrongFalsely : Prop := fixProductsRow.holds Try.pinned (OpenSpec.ofChange fixProductsWrong)

/-- 'regattalaw02.FixTold': WHATEVER THE INPUT: true; the input reads as it did. -/
def fixToldSpec : ChangeSpec := { name := "fixTold", fn := fun _ => fun
  | [d] => { results := [.lit (.bool true)], args := [d] }
  | _ => none }
def fixToldRow : OpenClaim := { program := "ytjhepjmggenadaa", sum := "7f6f7a6f5d993b1609c570324425bcd799a6f7101a69d13e64048a1bba91ff73", func := "regatta/regattalaw02.FixTold", spec := "fixTold", inPlace := ["math/bits.Add64", "math/bits.Sub64", "math.Float64bits", "math.Float64frombits"], apart := false }
def FixToldSaid : Prop := fixToldRow.holds Try.pinned (OpenSpec.ofChange fixToldSpec)

/-- ITS FALSE NEIGHBOUR: 'it returns false'. Refute it at one input. -/
def fixToldWrong : ChangeSpec := { name := "fixTold", fn := fun _ => fun
  | [d] => { results := [.lit (.bool false)], args := [d] }
  | _ => none }
def FixToldWrongFalsely : Prop := fixToldRow.holds Try.pinned (OpenSpec.ofChange fixToldWrong)

/-- 'regattalaw02.FixBack': WHATEVER THE INPUT: true; the input reads as it did. -/
def fixBackSpec : ChangeSpec := { name := "fixBack", fn := fun _ => fun
  | [d] => { results := [.lit (.bool true)], args := [d] }
  | _ => none }
def fixBackRow : OpenClaim := { program := "ytjhepjmggenadaa", sum := "7f6f7a6f5d993b1609c570324425bcd799a6f7101a69d13e64048a1bba91ff73", func := "regatta/regattalaw02.FixBack", spec := "fixBack", inPlace := ["math/bits.Add64", "math/bits.Sub64", "math.Float64bits", "math.Float64frombits"], apart := false }
def FixBackSaid : Prop := fixBackRow.holds Try.pinned (OpenSpec.ofChange fixBackSpec)

/-- ITS FALSE NEIGHBOUR: 'it returns false'. Refute it at one input. -/
def fixBackWrong : ChangeSpec := { name := "fixBack", fn := fun _ => fun
  | [d] => { results := [.lit (.bool false)], args := [d] }
  | _ => none }
def FixBackWrongFalsely : Prop := fixBackRow.holds Try.pinned (OpenSpec.ofChange fixBackWrong)

/-- 'regattalaw02.FixSums': WHATEVER THE INPUT: true; the input reads as it did. -/
def fixSumsSpec : ChangeSpec := { name := "fixSums", fn := fun _ => fun
  | [d1, d2] => { results := [.lit (.bool true)], args := [d1, d2] }
  | _ => none }
def fixSumsRow : OpenClaim := { program := "ytjhepjmggenadaa", sum := "7f6f7a6f5d993b1609c570324425bcd799a6f7101a69d13e64048a1bba91ff73", func := "regatta/regattalaw02.FixSums", spec := "fixSums", inPlace := ["math/bits.Add64", "math/bits.Sub64", "math.Float64bits", "math.Float64frombits"], apart := false }
def FixSumsSaid : Prop := fixSumsRow.holds Try.pinned (OpenSpec.ofChange fixSumsSpec)

/-- ITS FALSE NEIGHBOUR: 'it returns false'. Refute it at one input. -/
def fixSumsWrong : ChangeSpec := { name := "fixSums", fn := fun _ => fun
  | [d1, d2] => { results := [.lit (.bool false)], args := [d1, d2] }
  | _ => none }
def FixSumsWrongFalsely : Prop := fixSumsRow.holds Try.pinned (OpenSpec.ofChange fixSumsWrong)

/-- 'regattalaw02.FixClamps': WHATEVER THE INPUT: true; the input reads as it did. -/
def fixClampsSpec : ChangeSpec := { name := "fixClamps", fn := fun _ => fun
  | [d1, d2, d3] => { results := [.lit (.bool true)], args := [d1, d2, d3] }
  | _ => none }
def fixClampsRow : OpenClaim := { program := "ytjhepjmggenadaa", sum := "7f6f7a6f5d993b1609c570324425bcd799a6f7101a69d13e64048a1bba91ff73", func := "regatta/regattalaw02.FixClamps", spec := "fixClamps", inPlace := ["math/bits.Add64", "math/bits.Sub64", "math.Float64bits", "math.Float64frombits"], apart := false }
def FixClampsSaid : Prop := fixClampsRow.holds Try.pinned (OpenSpec.ofChange fixClampsSpec)

/-- ITS FALSE NEIGHBOUR: 'it returns false'. Refute it at one input. -/
def fixClampsWrong : ChangeSpec := { name := "fixClamps", fn := fun _ => fun
  | [d1, d2, d3] => { results := [.lit (.bool false)], args := [d1, d2, d3] }
  | _ => none }
def FixClampsWrongFalsely : Prop := fixClampsRow.holds Try.pinned (OpenSpec.ofChange fixClampsWrong)

/-- 'regattalaw02.FixAlike': WHATEVER THE INPUT: true; the input reads as it did. -/
def fixAlikeSpec : ChangeSpec := { name := "fixAlike", fn := fun _ => fun
  | [d1, d2] => { results := [.lit (.bool true)], args := [d1, d2] }
  | _ => none }
def fixAlikeRow : OpenClaim := { program := "ytjhepjmggenadaa", sum := "7f6f7a6f5d993b1609c570324425bcd799a6f7101a69d13e64048a1bba91ff73", func := "regatta/regattalaw02.FixAlike", spec := "fixAlike", inPlace := ["math/bits.Add64", "math/bits.Sub64", "math.Float64bits", "math.Float64frombits"], named := ["math/bits.divideError", "math/bits.overflowError"], apart := false }
def FixAlikeSaid : Prop := fixAlikeRow.holds Try.pinned (OpenSpec.ofChange fixAlikeSpec)

/-- ITS FALSE NEIGHBOUR: 'it returns false'. Refute it at one input. -/
def fixAlikeWrong : ChangeSpec := { name := "fixAlike", fn := fun _ => fun
  | [d1, d2] => { results := [.lit (.bool false)], args := [d1, d2] }
  | _ => none }
def FixAlikeWrongFalsely : Prop := fixAlikeRow.holds Try.pinned (OpenSpec.ofChange fixAlikeWrong)

/-- 'regattalaw02.FixWholes': WHATEVER THE INPUT: true; the input reads as it did. -/
def fixWholesSpec : ChangeSpec := { name := "fixWholes", fn := fun _ => fun
  | [d1, d2, d3] => { results := [.lit (.bool true)], args := [d1, d2, d3] }
  | _ => none }
def fixWholesRow : OpenClaim := { program := "ytjhepjmggenadaa", sum := "7f6f7a6f5d993b1609c570324425bcd799a6f7101a69d13e64048a1bba91ff73", func := "regatta/regattalaw02.FixWholes", spec := "fixWholes", inPlace := ["math/bits.Add64", "math/bits.Sub64", "math.Float64bits", "math.Float64frombits"], named := ["math/bits.divideError", "math/bits.overflowError"], apart := false }
def FixWholesSaid : Prop := fixWholesRow.holds Try.pinned (OpenSpec.ofChange fixWholesSpec)

/-- ITS FALSE NEIGHBOUR: 'it returns false'. Refute it at one input. -/
def fixWholesWrong : ChangeSpec := { name := "fixWholes", fn := fun _ => fun
  | [d1, d2, d3] => { results := [.lit (.bool false)], args := [d1, d2, d3] }
  | _ => none }
def FixWholesWrongFalsely : Prop := fixWholesRow.holds Try.pinned (OpenSpec.ofChange fixWholesWrong)

/-- 'regattalaw02.FixQuotients': WHATEVER THE INPUT: true; the input reads as it did. -/
def fixQuotientsSpec : ChangeSpec := { name := "fixQuotients", fn := fun _ => fun
  | [d1, d2, d3] => { results := [.lit (.bool true)], args := [d1, d2, d3] }
  | _ => none }
def fixQuotientsRow : OpenClaim := { program := "ytjhepjmggenadaa", sum := "7f6f7a6f5d993b1609c570324425bcd799a6f7101a69d13e64048a1bba91ff73", func := "regatta/regattalaw02.FixQuotients", spec := "fixQuotients", inPlace := ["math/bits.Add64", "math/bits.Sub64", "math.Float64bits", "math.Float64frombits"], named := ["math/bits.divideError", "math/bits.overflowError"], apart := false }
def FixQuotientsSaid : Prop := fixQuotientsRow.holds Try.pinned (OpenSpec.ofChange fixQuotientsSpec)

/-- ITS FALSE NEIGHBOUR: 'it returns false'. Refute it at one input. -/
def fixQuotientsWrong : ChangeSpec := { name := "fixQuotients", fn := fun _ => fun
  | [d1, d2, d3] => { results := [.lit (.bool false)], args := [d1, d2, d3] }
  | _ => none }
def FixQuotientsWrongFalsely : Prop := fixQuotientsRow.holds Try.pinned (OpenSpec.ofChange fixQuotientsWrong)

/-- 'regattalaw02.FixUnits': WHATEVER THE INPUT: true; the input reads as it did. -/
def fixUnitsSpec : ChangeSpec := { name := "fixUnits", fn := fun _ => fun
  | [d] => { results := [.lit (.bool true)], args := [d] }
  | _ => none }
def fixUnitsRow : OpenClaim := { program := "ytjhepjmggenadaa", sum := "7f6f7a6f5d993b1609c570324425bcd799a6f7101a69d13e64048a1bba91ff73", func := "regatta/regattalaw02.FixUnits", spec := "fixUnits", inPlace := ["math/bits.Add64", "math/bits.Sub64", "math.Float64bits", "math.Float64frombits"], unfollowed := true, recurses := true, named := ["math/bits.divideError", "math/bits.overflowError"], apart := false }
def FixUnitsSaid : Prop := fixUnitsRow.holds Try.pinned (OpenSpec.ofChange fixUnitsSpec)

/-- ITS FALSE NEIGHBOUR: 'it returns false'. Refute it at one input. -/
def fixUnitsWrong : ChangeSpec := { name := "fixUnits", fn := fun _ => fun
  | [d] => { results := [.lit (.bool false)], args := [d] }
  | _ => none }
def FixUnitsWrongFalsely : Prop := fixUnitsRow.holds Try.pinned (OpenSpec.ofChange fixUnitsWrong)

/- THE SECOND FORM. 'bulk': how many values and letters a reading holds, each counted each time it is reached (what is shared counts as often as it is met; a slice's spare places count too). A statement '..UptoSaid' is the law's where the arguments, and the package variables that the reading takes, are together of bulk at most 1048576: NARROWER than '..Said'. Prove '..Said' where nothing that the law and all that it calls make is longer than what came in: it says more and counts as full. Else prove '..UptoSaid'. A law counts once. -/
mutual
def uptoBulk {H : Type} : DataW H → Nat
  | .lit (.string bytes) => bytes.length + 1
  | .lit _ => 1
  | .nil => 1
  | .ptr d => uptoBulk d + 1
  | .slice elems spare => uptoBulkAll elems + uptoBulkAll spare + 1
  | .agg parts => uptoBulkAll parts + 1
  | .iface _ d => uptoBulk d + 1
  | .map entries => uptoBulkEntries entries + 1
  | .held _ => 1
def uptoBulkAll {H : Type} : List (DataW H) → Nat
  | [] => 0
  | d :: r => uptoBulk d + uptoBulkAll r
def uptoBulkEntries {H : Type} : List (Lit × DataW H) → Nat
  | [] => 0
  | x :: r => uptoBulkEntry x + uptoBulkEntries r
def uptoBulkEntry {H : Type} : Lit × DataW H → Nat
  | (.string bytes, d) => bytes.length + uptoBulk d + 1
  | (_, d) => uptoBulk d + 1
 end
def uptoSmall : (H : Type) → List (DataW H) → Bool := fun _ ds => decide (uptoBulkAll ds ≤ 1048576)
def OpenSpec.upto (s : _root_.Go.ChangeSpec) : _root_.Go.OpenSpec := { _root_.Go.OpenSpec.ofChange s with cond := some uptoSmall }

/-- 'regattalaw02.FixRoots', WHERE WHAT IT READS IS OF BULK AT MOST 1048576: true; the input reads as it did. -/
def fixRootsUptoRow : OpenClaim := { program := "ytjhepjmggenadaa", sum := "7f6f7a6f5d993b1609c570324425bcd799a6f7101a69d13e64048a1bba91ff73", func := "regatta/regattalaw02.FixRoots", spec := "fixRoots", inPlace := ["math/bits.Add64", "math/bits.Sub64", "math.Float64bits", "math.Float64frombits"], apart := false, narrowed := true }
def FixRootsUptoSaid : Prop := fixRootsUptoRow.holds Try.pinned (OpenSpec.upto fixRootsSpec)

/-- 'regattalaw02.FixFloats', WHERE WHAT IT READS IS OF BULK AT MOST 1048576: true; the input reads as it did. -/
def fixFloatsUptoRow : OpenClaim := { program := "ytjhepjmggenadaa", sum := "7f6f7a6f5d993b1609c570324425bcd799a6f7101a69d13e64048a1bba91ff73", func := "regatta/regattalaw02.FixFloats", spec := "fixFloats", inPlace := ["math/bits.Add64", "math/bits.Sub64", "math.Float64bits", "math.Float64frombits"], apart := false, narrowed := true }
def FixFloatsUptoSaid : Prop := fixFloatsUptoRow.holds Try.pinned (OpenSpec.upto fixFloatsSpec)

/-- 'regattalaw02.FixRises', WHERE WHAT IT READS IS OF BULK AT MOST 1048576: true; the input reads as it did. -/
def fixRisesUptoRow : OpenClaim := { program := "ytjhepjmggenadaa", sum := "7f6f7a6f5d993b1609c570324425bcd799a6f7101a69d13e64048a1bba91ff73", func := "regatta/regattalaw02.FixRises", spec := "fixRises", inPlace := ["math/bits.Add64", "math/bits.Sub64", "math.Float64bits", "math.Float64frombits"], apart := false, narrowed := true }
def FixRisesUptoSaid : Prop := fixRisesUptoRow.holds Try.pinned (OpenSpec.upto fixRisesSpec)

/-- 'regattalaw02.FixHolds', WHERE WHAT IT READS IS OF BULK AT MOST 1048576: true; the input reads as it did. -/
def fixHoldsUptoRow : OpenClaim := { program := "ytjhepjmggenadaa", sum := "7f6f7a6f5d993b1609c570324425bcd799a6f7101a69d13e64048a1bba91ff73", func := "regatta/regattalaw02.FixHolds", spec := "fixHolds", inPlace := ["math/bits.Add64", "math/bits.Sub64", "math.Float64bits", "math.Float64frombits"], apart := false, narrowed := true }
def FixHoldsUptoSaid : Prop := fixHoldsUptoRow.holds Try.pinned (OpenSpec.upto fixHoldsSpec)

/-- 'regattalaw02.FixSquares', WHERE WHAT IT READS IS OF BULK AT MOST 1048576: true; the input reads as it did. -/
def fixSquaresUptoRow : OpenClaim := { program := "ytjhepjmggenadaa", sum := "7f6f7a6f5d993b1609c570324425bcd799a6f7101a69d13e64048a1bba91ff73", func := "regatta/regattalaw02.FixSquares", spec := "fixSquares", inPlace := ["math/bits.Add64", "math/bits.Sub64", "math.Float64bits", "math.Float64frombits"], apart := false, narrowed := true }
def FixSquaresUptoSaid : Prop := fixSquaresUptoRow.holds Try.pinned (OpenSpec.upto fixSquaresSpec)

/-- 'regattalaw02.FixProducts', WHERE WHAT IT READS IS OF BULK AT MOST 1048576: true; the input reads as it did. -/
def fixProductsUptoRow : OpenClaim := { program := "ytjhepjmggenadaa", sum := "7f6f7a6f5d993b1609c570324425bcd799a6f7101a69d13e64048a1bba91ff73", func := "regatta/regattalaw02.FixProducts", spec := "fixProducts", inPlace := ["math/bits.Add64", "math/bits.Sub64", "math.Float64bits", "math.Float64frombits"], apart := false, narrowed := true }
def FixProductsUptoSaid : Prop := fixProductsUptoRow.holds Try.pinned (OpenSpec.upto fixProductsSpec)

/-- 'regattalaw02.FixTold', WHERE WHAT IT READS IS OF BULK AT MOST 1048576: true; the input reads as it did. -/
def fixToldUptoRow : OpenClaim := { program := "ytjhepjmggenadaa", sum := "7f6f7a6f5d993b1609c570324425bcd799a6f7101a69d13e64048a1bba91ff73", func := "regatta/regattalaw02.FixTold", spec := "fixTold", inPlace := ["math/bits.Add64", "math/bits.Sub64", "math.Float64bits", "math.Float64frombits"], apart := false, narrowed := true }
def FixToldUptoSaid : Prop := fixToldUptoRow.holds Try.pinned (OpenSpec.upto fixToldSpec)

/-- 'regattalaw02.FixBack', WHERE WHAT IT READS IS OF BULK AT MOST 1048576: true; the input reads as it did. -/
def fixBackUptoRow : OpenClaim := { program := "ytjhepjmggenadaa", sum := "7f6f7a6f5d993b1609c570324425bcd799a6f7101a69d13e64048a1bba91ff73", func := "regatta/regattalaw02.FixBack", spec := "fixBack", inPlace := ["math/bits.Add64", "math/bits.Sub64", "math.Float64bits", "math.Float64frombits"], apart := false, narrowed := true }
def FixBackUptoSaid : Prop := fixBackUptoRow.holds Try.pinned (OpenSpec.upto fixBackSpec)

/-- 'regattalaw02.FixSums', WHERE WHAT IT READS IS OF BULK AT MOST 1048576: true; the input reads as it did. -/
def fixSumsUptoRow : OpenClaim := { program := "ytjhepjmggenadaa", sum := "7f6f7a6f5d993b1609c570324425bcd799a6f7101a69d13e64048a1bba91ff73", func := "regatta/regattalaw02.FixSums", spec := "fixSums", inPlace := ["math/bits.Add64", "math/bits.Sub64", "math.Float64bits", "math.Float64frombits"], apart := false, narrowed := true }
def FixSumsUptoSaid : Prop := fixSumsUptoRow.holds Try.pinned (OpenSpec.upto fixSumsSpec)

/-- 'regattalaw02.FixClamps', WHERE WHAT IT READS IS OF BULK AT MOST 1048576: true; the input reads as it did. -/
def fixClampsUptoRow : OpenClaim := { program := "ytjhepjmggenadaa", sum := "7f6f7a6f5d993b1609c570324425bcd799a6f7101a69d13e64048a1bba91ff73", func := "regatta/regattalaw02.FixClamps", spec := "fixClamps", inPlace := ["math/bits.Add64", "math/bits.Sub64", "math.Float64bits", "math.Float64frombits"], apart := false, narrowed := true }
def FixClampsUptoSaid : Prop := fixClampsUptoRow.holds Try.pinned (OpenSpec.upto fixClampsSpec)

/-- 'regattalaw02.FixAlike', WHERE WHAT IT READS IS OF BULK AT MOST 1048576: true; the input reads as it did. -/
def fixAlikeUptoRow : OpenClaim := { program := "ytjhepjmggenadaa", sum := "7f6f7a6f5d993b1609c570324425bcd799a6f7101a69d13e64048a1bba91ff73", func := "regatta/regattalaw02.FixAlike", spec := "fixAlike", inPlace := ["math/bits.Add64", "math/bits.Sub64", "math.Float64bits", "math.Float64frombits"], named := ["math/bits.divideError", "math/bits.overflowError"], apart := false, narrowed := true }
def FixAlikeUptoSaid : Prop := fixAlikeUptoRow.holds Try.pinned (OpenSpec.upto fixAlikeSpec)

/-- 'regattalaw02.FixWholes', WHERE WHAT IT READS IS OF BULK AT MOST 1048576: true; the input reads as it did. -/
def fixWholesUptoRow : OpenClaim := { program := "ytjhepjmggenadaa", sum := "7f6f7a6f5d993b1609c570324425bcd799a6f7101a69d13e64048a1bba91ff73", func := "regatta/regattalaw02.FixWholes", spec := "fixWholes", inPlace := ["math/bits.Add64", "math/bits.Sub64", "math.Float64bits", "math.Float64frombits"], named := ["math/bits.divideError", "math/bits.overflowError"], apart := false, narrowed := true }
def FixWholesUptoSaid : Prop := fixWholesUptoRow.holds Try.pinned (OpenSpec.upto fixWholesSpec)

/-- 'regattalaw02.FixQuotients', WHERE WHAT IT READS IS OF BULK AT MOST 1048576: true; the input reads as it did. -/
def fixQuotientsUptoRow : OpenClaim := { program := "ytjhepjmggenadaa", sum := "7f6f7a6f5d993b1609c570324425bcd799a6f7101a69d13e64048a1bba91ff73", func := "regatta/regattalaw02.FixQuotients", spec := "fixQuotients", inPlace := ["math/bits.Add64", "math/bits.Sub64", "math.Float64bits", "math.Float64frombits"], named := ["math/bits.divideError", "math/bits.overflowError"], apart := false, narrowed := true }
def FixQuotientsUptoSaid : Prop := fixQuotientsUptoRow.holds Try.pinned (OpenSpec.upto fixQuotientsSpec)

/-- 'regattalaw02.FixUnits', WHERE WHAT IT READS IS OF BULK AT MOST 1048576: true; the input reads as it did. -/
def fixUnitsUptoRow : OpenClaim := { program := "ytjhepjmggenadaa", sum := "7f6f7a6f5d993b1609c570324425bcd799a6f7101a69d13e64048a1bba91ff73", func := "regatta/regattalaw02.FixUnits", spec := "fixUnits", inPlace := ["math/bits.Add64", "math/bits.Sub64", "math.Float64bits", "math.Float64frombits"], unfollowed := true, recurses := true, named := ["math/bits.divideError", "math/bits.overflowError"], apart := false, narrowed := true }
def FixUnitsUptoSaid : Prop := fixUnitsUptoRow.holds Try.pinned (OpenSpec.upto fixUnitsSpec)

end Rows
end Go.Proofs.Ytjhepjmggenadaa
