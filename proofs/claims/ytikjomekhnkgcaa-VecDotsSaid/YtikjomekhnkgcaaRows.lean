/-
  No cell of these rows narrows 'for every input' (looked for: loops, veiled, ifaces, maps, wideKeys, modest, calm, conditions, laid).
  DERIVED. THE GIVEN ROWS OF THIS SEAT. 10 by the template 'for every input the law returns true; each argument reads behind the call as it read before'; 0 by the template 'total and deterministic' (their statements: YtikjomekhnkgcaaTotals.lean).
  GIVEN WITH THE SEED: the statements are not yours to turn. If you find one false, say at which input.
  Laid BY PROGRAM, IN A SANDBOX (cutbox-rows.mjs): the forced cells as the released guide's own fill.sh prints them over the translation 4cbc8a11ce71942a… (all of the seat's roots in one cut). By AI agents, Wed Nov 11 2026. No macro, syntax, notation, axiom, sorry.
-/
import Derived.Test.YtikjomekhnkgcaaChecked
import GoSem.Claim
import GoSem.ClaimJoined
import GoSem.ClaimMapViews
import Derived.JoinedTies
import Derived.KernelRfl
namespace Go.Proofs.Ytikjomekhnkgcaa
/- THE CELL 'sum', in the pinned program and in every row, IS THE sha256 OF THE DUMP (.gsa) THAT YtikjomekhnkgcaaProg.lean LOADS. Nothing in Lean hashes anything: it is a label: what it is worth is what the hold of that sum in a sandbox is worth. -/
noncomputable def Try.pinned : Pinned := { name := "ytikjomekhnkgcaa", sum := "4cbc8a11ce71942ae80aaa8e24a3284ea05bdc50a3ff4b7ecd1ab5df75f00c4d", checked := Try.checked }
namespace Rows
def none {H : Type} : Left H := { results := [], args := [] }

/-- 'regattalaw04.VecRows': WHATEVER THE INPUT: true; the input reads as it did. -/
def vecRowsSpec : ChangeSpec := { name := "vecRows", fn := fun _ => fun
  | [d1, d2] => { results := [.lit (.bool true)], args := [d1, d2] }
  | _ => none }
def vecRowsRow : OpenClaim := { program := "ytikjomekhnkgcaa", sum := "4cbc8a11ce71942ae80aaa8e24a3284ea05bdc50a3ff4b7ecd1ab5df75f00c4d", func := "regatta/regattalaw04.VecRows", spec := "vecRows", inPlace := ["math/bits.Add64"], apart := false }
def VecRowsSaid : Prop := vecRowsRow.holds Try.pinned (OpenSpec.ofChange vecRowsSpec)

/-- ITS FALSE NEIGHBOUR: 'it returns false'. Refute it at one input. -/
def vecRowsWrong : ChangeSpec := { name := "vecRows", fn := fun _ => fun
  | [d1, d2] => { results := [.lit (.bool false)], args := [d1, d2] }
  | _ => none }
def VecRowsWrongFalsely : Prop := vecRowsRow.holds Try.pinned (OpenSpec.ofChange vecRowsWrong)

/-- 'regattalaw04.VecMats': WHATEVER THE INPUT: true; the input reads as it did. -/
def vecMatsSpec : ChangeSpec := { name := "vecMats", fn := fun _ => fun
  | [d1, d2] => { results := [.lit (.bool true)], args := [d1, d2] }
  | _ => none }
def vecMatsRow : OpenClaim := { program := "ytikjomekhnkgcaa", sum := "4cbc8a11ce71942ae80aaa8e24a3284ea05bdc50a3ff4b7ecd1ab5df75f00c4d", func := "regatta/regattalaw04.VecMats", spec := "vecMats", inPlace := ["math/bits.Add64"], apart := false }
def VecMatsSaid : Prop := vecMatsRow.holds Try.pinned (OpenSpec.ofChange vecMatsSpec)

/-- ITS FALSE NEIGHBOUR: 'it returns false'. Refute it at one input. -/
def vecMatsWrong : ChangeSpec := { name := "vecMats", fn := fun _ => fun
  | [d1, d2] => { results := [.lit (.bool false)], args := [d1, d2] }
  | _ => none }
def VecMatsWrongFalsely : Prop := vecMatsRow.holds Try.pinned (OpenSpec.ofChange vecMatsWrong)

/-- 'regattalaw04.VecOuters': WHATEVER THE INPUT: true; the input reads as it did. -/
def vecOutersSpec : ChangeSpec := { name := "vecOuters", fn := fun _ => fun
  | [d1, d2] => { results := [.lit (.bool true)], args := [d1, d2] }
  | _ => none }
def vecOutersRow : OpenClaim := { program := "ytikjomekhnkgcaa", sum := "4cbc8a11ce71942ae80aaa8e24a3284ea05bdc50a3ff4b7ecd1ab5df75f00c4d", func := "regatta/regattalaw04.VecOuters", spec := "vecOuters", inPlace := ["math/bits.Add64", "math/bits.Sub64"], unfollowed := true, recurses := true, apart := false }
def VecOutersSaid : Prop := vecOutersRow.holds Try.pinned (OpenSpec.ofChange vecOutersSpec)

/-- ITS FALSE NEIGHBOUR: 'it returns false'. Refute it at one input. -/
def vecOutersWrong : ChangeSpec := { name := "vecOuters", fn := fun _ => fun
  | [d1, d2] => { results := [.lit (.bool false)], args := [d1, d2] }
  | _ => none }
def VecOutersWrongFalsely : Prop := vecOutersRow.holds Try.pinned (OpenSpec.ofChange vecOutersWrong)

/-- 'regattalaw04.VecSums': WHATEVER THE INPUT: true; the input reads as it did. -/
def vecSumsSpec : ChangeSpec := { name := "vecSums", fn := fun _ => fun
  | [d1, d2, d3] => { results := [.lit (.bool true)], args := [d1, d2, d3] }
  | _ => none }
def vecSumsRow : OpenClaim := { program := "ytikjomekhnkgcaa", sum := "4cbc8a11ce71942ae80aaa8e24a3284ea05bdc50a3ff4b7ecd1ab5df75f00c4d", func := "regatta/regattalaw04.VecSums", spec := "vecSums", inPlace := ["math/bits.Add64", "math/bits.Sub64"], unfollowed := true, recurses := true, apart := false }
def VecSumsSaid : Prop := vecSumsRow.holds Try.pinned (OpenSpec.ofChange vecSumsSpec)

/-- ITS FALSE NEIGHBOUR: 'it returns false'. Refute it at one input. -/
def vecSumsWrong : ChangeSpec := { name := "vecSums", fn := fun _ => fun
  | [d1, d2, d3] => { results := [.lit (.bool false)], args := [d1, d2, d3] }
  | _ => none }
def VecSumsWrongFalsely : Prop := vecSumsRow.holds Try.pinned (OpenSpec.ofChange vecSumsWrong)

/-- 'regattalaw04.VecTurned': WHATEVER THE INPUT: true; the input reads as it did. -/
def vecTurnedSpec : ChangeSpec := { name := "vecTurned", fn := fun _ => fun
  | [d1, d2, d3] => { results := [.lit (.bool true)], args := [d1, d2, d3] }
  | _ => none }
def vecTurnedRow : OpenClaim := { program := "ytikjomekhnkgcaa", sum := "4cbc8a11ce71942ae80aaa8e24a3284ea05bdc50a3ff4b7ecd1ab5df75f00c4d", func := "regatta/regattalaw04.VecTurned", spec := "vecTurned", inPlace := ["math/bits.Add64", "math/bits.Sub64"], named := ["math/bits.divideError", "math/bits.overflowError"], apart := false }
def VecTurnedSaid : Prop := vecTurnedRow.holds Try.pinned (OpenSpec.ofChange vecTurnedSpec)

/-- ITS FALSE NEIGHBOUR: 'it returns false'. Refute it at one input. -/
def vecTurnedWrong : ChangeSpec := { name := "vecTurned", fn := fun _ => fun
  | [d1, d2, d3] => { results := [.lit (.bool false)], args := [d1, d2, d3] }
  | _ => none }
def VecTurnedWrongFalsely : Prop := vecTurnedRow.holds Try.pinned (OpenSpec.ofChange vecTurnedWrong)

/-- 'regattalaw04.VecDots': WHATEVER THE INPUT: true; the input reads as it did. -/
def vecDotsSpec : ChangeSpec := { name := "vecDots", fn := fun _ => fun
  | [d1, d2] => { results := [.lit (.bool true)], args := [d1, d2] }
  | _ => none }
def vecDotsRow : OpenClaim := { program := "ytikjomekhnkgcaa", sum := "4cbc8a11ce71942ae80aaa8e24a3284ea05bdc50a3ff4b7ecd1ab5df75f00c4d", func := "regatta/regattalaw04.VecDots", spec := "vecDots", inPlace := ["math/bits.Add64", "math/bits.Sub64"], named := ["math/bits.divideError", "math/bits.overflowError"], apart := false }
def VecDotsSaid : Prop := vecDotsRow.holds Try.pinned (OpenSpec.ofChange vecDotsSpec)

/-- ITS FALSE NEIGHBOUR: 'it returns false'. Refute it at one input. -/
def vecDotsWrong : ChangeSpec := { name := "vecDots", fn := fun _ => fun
  | [d1, d2] => { results := [.lit (.bool false)], args := [d1, d2] }
  | _ => none }
def VecDotsWrongFalsely : Prop := vecDotsRow.holds Try.pinned (OpenSpec.ofChange vecDotsWrong)

/-- 'regattalaw04.VecMeans': WHATEVER THE INPUT: true; the input reads as it did. -/
def vecMeansSpec : ChangeSpec := { name := "vecMeans", fn := fun _ => fun
  | [d] => { results := [.lit (.bool true)], args := [d] }
  | _ => none }
def vecMeansRow : OpenClaim := { program := "ytikjomekhnkgcaa", sum := "4cbc8a11ce71942ae80aaa8e24a3284ea05bdc50a3ff4b7ecd1ab5df75f00c4d", func := "regatta/regattalaw04.VecMeans", spec := "vecMeans", inPlace := ["math/bits.Add64", "math/bits.Sub64"], unfollowed := true, recurses := true, named := ["math/bits.divideError", "math/bits.overflowError"], apart := false }
def VecMeansSaid : Prop := vecMeansRow.holds Try.pinned (OpenSpec.ofChange vecMeansSpec)

/-- ITS FALSE NEIGHBOUR: 'it returns false'. Refute it at one input. -/
def vecMeansWrong : ChangeSpec := { name := "vecMeans", fn := fun _ => fun
  | [d] => { results := [.lit (.bool false)], args := [d] }
  | _ => none }
def VecMeansWrongFalsely : Prop := vecMeansRow.holds Try.pinned (OpenSpec.ofChange vecMeansWrong)

/-- 'regattalaw04.VecAlone': WHATEVER THE INPUT: true; the input reads as it did. -/
def vecAloneSpec : ChangeSpec := { name := "vecAlone", fn := fun _ => fun
  | [d1, d2] => { results := [.lit (.bool true)], args := [d1, d2] }
  | _ => none }
def vecAloneRow : OpenClaim := { program := "ytikjomekhnkgcaa", sum := "4cbc8a11ce71942ae80aaa8e24a3284ea05bdc50a3ff4b7ecd1ab5df75f00c4d", func := "regatta/regattalaw04.VecAlone", spec := "vecAlone", inPlace := ["math/bits.Add64", "math/bits.Sub64"], unfollowed := true, recurses := true, named := ["math/bits.divideError", "math/bits.overflowError"], apart := false }
def VecAloneSaid : Prop := vecAloneRow.holds Try.pinned (OpenSpec.ofChange vecAloneSpec)

/-- ITS FALSE NEIGHBOUR: 'it returns false'. Refute it at one input. -/
def vecAloneWrong : ChangeSpec := { name := "vecAlone", fn := fun _ => fun
  | [d1, d2] => { results := [.lit (.bool false)], args := [d1, d2] }
  | _ => none }
def VecAloneWrongFalsely : Prop := vecAloneRow.holds Try.pinned (OpenSpec.ofChange vecAloneWrong)

/-- 'regattalaw04.VecShorter': WHATEVER THE INPUT: true; the input reads as it did. -/
def vecShorterSpec : ChangeSpec := { name := "vecShorter", fn := fun _ => fun
  | [d1, d2] => { results := [.lit (.bool true)], args := [d1, d2] }
  | _ => none }
def vecShorterRow : OpenClaim := { program := "ytikjomekhnkgcaa", sum := "4cbc8a11ce71942ae80aaa8e24a3284ea05bdc50a3ff4b7ecd1ab5df75f00c4d", func := "regatta/regattalaw04.VecShorter", spec := "vecShorter", inPlace := ["math/bits.Add64", "math/bits.Sub64"], unfollowed := true, recurses := true, named := ["math/bits.divideError", "math/bits.overflowError"], apart := false }
def VecShorterSaid : Prop := vecShorterRow.holds Try.pinned (OpenSpec.ofChange vecShorterSpec)

/-- ITS FALSE NEIGHBOUR: 'it returns false'. Refute it at one input. -/
def vecShorterWrong : ChangeSpec := { name := "vecShorter", fn := fun _ => fun
  | [d1, d2] => { results := [.lit (.bool false)], args := [d1, d2] }
  | _ => none }
def VecShorterWrongFalsely : Prop := vecShorterRow.holds Try.pinned (OpenSpec.ofChange vecShorterWrong)

/-- 'regattalaw04.VecLimits': WHATEVER THE INPUT: true; the input reads as it did. -/
def vecLimitsSpec : ChangeSpec := { name := "vecLimits", fn := fun _ => fun
  | [d] => { results := [.lit (.bool true)], args := [d] }
  | _ => none }
def vecLimitsRow : OpenClaim := { program := "ytikjomekhnkgcaa", sum := "4cbc8a11ce71942ae80aaa8e24a3284ea05bdc50a3ff4b7ecd1ab5df75f00c4d", func := "regatta/regattalaw04.VecLimits", spec := "vecLimits", inPlace := ["math/bits.Add64", "math/bits.Sub64"], unfollowed := true, recurses := true, named := ["math/bits.divideError", "math/bits.overflowError"], apart := false }
def VecLimitsSaid : Prop := vecLimitsRow.holds Try.pinned (OpenSpec.ofChange vecLimitsSpec)

/-- ITS FALSE NEIGHBOUR: 'it returns false'. Refute it at one input. -/
def vecLimitsWrong : ChangeSpec := { name := "vecLimits", fn := fun _ => fun
  | [d] => { results := [.lit (.bool false)], args := [d] }
  | _ => none }
def VecLimitsWrongFalsely : Prop := vecLimitsRow.holds Try.pinned (OpenSpec.ofChange vecLimitsWrong)

/- THE SECOND FORM. 'bulk': how many values and letters a reading holds, each counted each time it is reached (what is shared counts as often as it is met; a slice's spare places count too). A statement '..UptoSaid' is the law's where the arguments, and the package variables that the reading takes, are together of bulk at most 1048576: NARROWER than '..Said'. Prove '..Said' where nothing that the law and all that it calls make is longer than what came in: it says more and counts as full. Else prove '..UptoSaid'. A law counts once. -/
mutual
def uptoBulk {H : Type} : DataW H → Nat
  | .lit (.string bytes) => bytes.length + 1
  | .lit _ => 1
  | .nil => 1
  | .ptr d => uptoBulk d + 1
  | .slice elems spare => uptoBulkAll elems + uptoBulkAll spare + 1
  | .agg parts => uptoBulkAll parts + 1
  | .iface _ d => uptoBulk d + 1
  | .map entries => uptoBulkEntries entries + 1
  | .held _ => 1
def uptoBulkAll {H : Type} : List (DataW H) → Nat
  | [] => 0
  | d :: r => uptoBulk d + uptoBulkAll r
def uptoBulkEntries {H : Type} : List (Lit × DataW H) → Nat
  | [] => 0
  | x :: r => uptoBulkEntry x + uptoBulkEntries r
def uptoBulkEntry {H : Type} : Lit × DataW H → Nat
  | (.string bytes, d) => bytes.length + uptoBulk d + 1
  | (_, d) => uptoBulk d + 1
 end
def uptoSmall : (H : Type) → List (DataW H) → Bool := fun _ ds => decide (uptoBulkAll ds ≤ 1048576)
def OpenSpec.upto (s : _root_.Go.ChangeSpec) : _root_.Go.OpenSpec := { _root_.Go.OpenSpec.ofChange s with cond := some uptoSmall }

/-- 'regattalaw04.VecRows', WHERE WHAT IT READS IS OF BULK AT MOST 1048576: true; the input reads as it did. -/
def vecRowsUptoRow : OpenClaim := { program := "ytikjomekhnkgcaa", sum := "4cbc8a11ce71942ae80aaa8e24a3284ea05bdc50a3ff4b7ecd1ab5df75f00c4d", func := "regatta/regattalaw04.VecRows", spec := "vecRows", inPlace := ["math/bits.Add64"], apart := false, narrowed := true }
def VecRowsUptoSaid : Prop := vecRowsUptoRow.holds Try.pinned (OpenSpec.upto vecRowsSpec)

/-- 'regattalaw04.VecMats', WHERE WHAT IT READS IS OF BULK AT MOST 1048576: true; the input reads as it did. -/
def vecMatsUptoRow : OpenClaim := { program := "ytikjomekhnkgcaa", sum := "4cbc8a11ce71942ae80aaa8e24a3284ea05bdc50a3ff4b7ecd1ab5df75f00c4d", func := "regatta/regattalaw04.VecMats", spec := "vecMats", inPlace := ["math/bits.Add64"], apart := false, narrowed := true }
def VecMatsUptoSaid : Prop := vecMatsUptoRow.holds Try.pinned (OpenSpec.upto vecMatsSpec)

/-- 'regattalaw04.VecOuters', WHERE WHAT IT READS IS OF BULK AT MOST 1048576: true; the input reads as it did. -/
def vecOutersUptoRow : OpenClaim := { program := "ytikjomekhnkgcaa", sum := "4cbc8a11ce71942ae80aaa8e24a3284ea05bdc50a3ff4b7ecd1ab5df75f00c4d", func := "regatta/regattalaw04.VecOuters", spec := "vecOuters", inPlace := ["math/bits.Add64", "math/bits.Sub64"], unfollowed := true, recurses := true, apart := false, narrowed := true }
def VecOutersUptoSaid : Prop := vecOutersUptoRow.holds Try.pinned (OpenSpec.upto vecOutersSpec)

/-- 'regattalaw04.VecSums', WHERE WHAT IT READS IS OF BULK AT MOST 1048576: true; the input reads as it did. -/
def vecSumsUptoRow : OpenClaim := { program := "ytikjomekhnkgcaa", sum := "4cbc8a11ce71942ae80aaa8e24a3284ea05bdc50a3ff4b7ecd1ab5df75f00c4d", func := "regatta/regattalaw04.VecSums", spec := "vecSums", inPlace := ["math/bits.Add64", "math/bits.Sub64"], unfollowed := true, recurses := true, apart := false, narrowed := true }
def VecSumsUptoSaid : Prop := vecSumsUptoRow.holds Try.pinned (OpenSpec.upto vecSumsSpec)

/-- 'regattalaw04.VecTurned', WHERE WHAT IT READS IS OF BULK AT MOST 1048576: true; the input reads as it did. -/
def vecTurnedUptoRow : OpenClaim := { program := "ytikjomekhnkgcaa", sum := "4cbc8a11ce71942ae80aaa8e24a3284ea05bdc50a3ff4b7ecd1ab5df75f00c4d", func := "regatta/regattalaw04.VecTurned", spec := "vecTurned", inPlace := ["math/bits.Add64", "math/bits.Sub64"], named := ["math/bits.divideError", "math/bits.overflowError"], apart := false, narrowed := true }
def VecTurnedUptoSaid : Prop := vecTurnedUptoRow.holds Try.pinned (OpenSpec.upto vecTurnedSpec)

/-- 'regattalaw04.VecDots', WHERE WHAT IT READS IS OF BULK AT MOST 1048576: true; the input reads as it did. -/
def vecDotsUptoRow : OpenClaim := { program := "ytikjomekhnkgcaa", sum := "4cbc8a11ce71942ae80aaa8e24a3284ea05bdc50a3ff4b7ecd1ab5df75f00c4d", func := "regatta/regattalaw04.VecDots", spec := "vecDots", inPlace := ["math/bits.Add64", "math/bits.Sub64"], named := ["math/bits.divideError", "math/bits.overflowError"], apart := false, narrowed := true }
def VecDotsUptoSaid : Prop := vecDotsUptoRow.holds Try.pinned (OpenSpec.upto vecDotsSpec)

/-- 'regattalaw04.VecMeans', WHERE WHAT IT READS IS OF BULK AT MOST 1048576: true; the input reads as it did. -/
def vecMeansUptoRow : OpenClaim := { program := "ytikjomekhnkgcaa", sum := "4cbc8a11ce71942ae80aaa8e24a3284ea05bdc50a3ff4b7ecd1ab5df75f00c4d", func := "regatta/regattalaw04.VecMeans", spec := "vecMeans", inPlace := ["math/bits.Add64", "math/bits.Sub64"], unfollowed := true, recurses := true, named := ["math/bits.divideError", "math/bits.overflowError"], apart := false, narrowed := true }
def VecMeansUptoSaid : Prop := vecMeansUptoRow.holds Try.pinned (OpenSpec.upto vecMeansSpec)

/-- 'regattalaw04.VecAlone', WHERE WHAT IT READS IS OF BULK AT MOST 1048576: true; the input reads as it did. -/
def vecAloneUptoRow : OpenClaim := { program := "ytikjomekhnkgcaa", sum := "4cbc8a11ce71942ae80aaa8e24a3284ea05bdc50a3ff4b7ecd1ab5df75f00c4d", func := "regatta/regattalaw04.VecAlone", spec := "vecAlone", inPlace := ["math/bits.Add64", "math/bits.Sub64"], unfollowed := true, recurses := true, named := ["math/bits.divideError", "math/bits.overflowError"], apart := false, narrowed := true }
def VecAloneUptoSaid : Prop := vecAloneUptoRow.holds Try.pinned (OpenSpec.upto vecAloneSpec)

/-- 'regattalaw04.VecShorter', WHERE WHAT IT READS IS OF BULK AT MOST 1048576: true; the input reads as it did. -/
def vecShorterUptoRow : OpenClaim := { program := "ytikjomekhnkgcaa", sum := "4cbc8a11ce71942ae80aaa8e24a3284ea05bdc50a3ff4b7ecd1ab5df75f00c4d", func := "regatta/regattalaw04.VecShorter", spec := "vecShorter", inPlace := ["math/bits.Add64", "math/bits.Sub64"], unfollowed := true, recurses := true, named := ["math/bits.divideError", "math/bits.overflowError"], apart := false, narrowed := true }
def VecShorterUptoSaid : Prop := vecShorterUptoRow.holds Try.pinned (OpenSpec.upto vecShorterSpec)

/-- 'regattalaw04.VecLimits', WHERE WHAT IT READS IS OF BULK AT MOST 1048576: true; the input reads as it did. -/
def vecLimitsUptoRow : OpenClaim := { program := "ytikjomekhnkgcaa", sum := "4cbc8a11ce71942ae80aaa8e24a3284ea05bdc50a3ff4b7ecd1ab5df75f00c4d", func := "regatta/regattalaw04.VecLimits", spec := "vecLimits", inPlace := ["math/bits.Add64", "math/bits.Sub64"], unfollowed := true, recurses := true, named := ["math/bits.divideError", "math/bits.overflowError"], apart := false, narrowed := true }
def VecLimitsUptoSaid : Prop := vecLimitsUptoRow.holds Try.pinned (OpenSpec.upto vecLimitsSpec)

end Rows
end Go.Proofs.Ytikjomekhnkgcaa
