/-
  No cell of these rows narrows 'for every input' (looked for: loops, veiled, ifaces, maps, wideKeys, modest, calm, conditions, laid).
  DERIVED. THE GIVEN ROWS OF THIS SEAT. 13 by the template 'for every input the law returns true; each argument reads behind the call as it read before'; 0 by the template 'total and deterministic' (their statements: YtdnccplmpgcleaaTotals.lean).
  GIVEN WITH THE SEED: the statements are not yours to turn. If you find one false, say at which input.
  Laid BY PROGRAM, IN A SANDBOX (cutbox-rows.mjs): the forced cells as the released guide's own fill.sh prints them over the translation 5786deee34c22148… (all of the seat's roots in one cut). By AI agents, Wed Nov 11 2026. No macro, syntax, notation, axiom, sorry.
-/
import Derived.Test.YtdnccplmpgcleaaChecked
import GoSem.Claim
import GoSem.ClaimJoined
import GoSem.ClaimMapViews
import Derived.JoinedTies
import Derived.KernelRfl
namespace Go.Proofs.Ytdnccplmpgcleaa
/- THE CELL 'sum', in the pinned program and in every row, IS THE sha256 OF THE DUMP (.gsa) THAT YtdnccplmpgcleaaProg.lean LOADS. Nothing in Lean hashes anything: it is a label: what it is worth is what the hold of that sum in a sandbox is worth. -/
noncomputable def Try.pinned : Pinned := { name := "ytdnccplmpgcleaa", sum := "5786deee34c22148df25f86c2f35773f85d4fde5f3a42d5916428dae38af19fb", checked := Try.checked }
namespace Rows
def none {H : Type} : Left H := { results := [], args := [] }

/-- 'regattalaw01.WideSums': WHATEVER THE INPUT: true; the input reads as it did. -/
def wideSumsSpec : ChangeSpec := { name := "wideSums", fn := fun _ => fun
  | [d1, d2, d3] => { results := [.lit (.bool true)], args := [d1, d2, d3] }
  | _ => none }
def wideSumsRow : OpenClaim := { program := "ytdnccplmpgcleaa", sum := "5786deee34c22148df25f86c2f35773f85d4fde5f3a42d5916428dae38af19fb", func := "regatta/regattalaw01.WideSums", spec := "wideSums", inPlace := ["math/bits.Sub64", "math/bits.Add64"], named := ["math/bits.divideError", "math/bits.overflowError"], apart := false }
def WideSumsSaid : Prop := wideSumsRow.holds Try.pinned (OpenSpec.ofChange wideSumsSpec)

/-- ITS FALSE NEIGHBOUR: 'it returns false'. Refute it at one input. -/
def wideSumsWrong : ChangeSpec := { name := "wideSums", fn := fun _ => fun
  | [d1, d2, d3] => { results := [.lit (.bool false)], args := [d1, d2, d3] }
  | _ => none }
def WideSumsWrongFalsely : Prop := wideSumsRow.holds Try.pinned (OpenSpec.ofChange wideSumsWrong)

/-- 'regattalaw01.WideProducts': WHATEVER THE INPUT: true; the input reads as it did. -/
def wideProductsSpec : ChangeSpec := { name := "wideProducts", fn := fun _ => fun
  | [d1, d2] => { results := [.lit (.bool true)], args := [d1, d2] }
  | _ => none }
def wideProductsRow : OpenClaim := { program := "ytdnccplmpgcleaa", sum := "5786deee34c22148df25f86c2f35773f85d4fde5f3a42d5916428dae38af19fb", func := "regatta/regattalaw01.WideProducts", spec := "wideProducts", inPlace := ["math/bits.Sub64", "math/bits.Add64"], named := ["math/bits.divideError", "math/bits.overflowError"], apart := false }
def WideProductsSaid : Prop := wideProductsRow.holds Try.pinned (OpenSpec.ofChange wideProductsSpec)

/-- ITS FALSE NEIGHBOUR: 'it returns false'. Refute it at one input. -/
def wideProductsWrong : ChangeSpec := { name := "wideProducts", fn := fun _ => fun
  | [d1, d2] => { results := [.lit (.bool false)], args := [d1, d2] }
  | _ => none }
def WideProductsWrongFalsely : Prop := wideProductsRow.holds Try.pinned (OpenSpec.ofChange wideProductsWrong)

/-- 'regattalaw01.WideShifts': WHATEVER THE INPUT: true; the input reads as it did. -/
def wideShiftsSpec : ChangeSpec := { name := "wideShifts", fn := fun _ => fun
  | [d1, d2] => { results := [.lit (.bool true)], args := [d1, d2] }
  | _ => none }
def wideShiftsRow : OpenClaim := { program := "ytdnccplmpgcleaa", sum := "5786deee34c22148df25f86c2f35773f85d4fde5f3a42d5916428dae38af19fb", func := "regatta/regattalaw01.WideShifts", spec := "wideShifts", inPlace := ["math/bits.Sub64", "math/bits.Add64"], named := ["math/bits.divideError", "math/bits.overflowError"], apart := false }
def WideShiftsSaid : Prop := wideShiftsRow.holds Try.pinned (OpenSpec.ofChange wideShiftsSpec)

/-- ITS FALSE NEIGHBOUR: 'it returns false'. Refute it at one input. -/
def wideShiftsWrong : ChangeSpec := { name := "wideShifts", fn := fun _ => fun
  | [d1, d2] => { results := [.lit (.bool false)], args := [d1, d2] }
  | _ => none }
def WideShiftsWrongFalsely : Prop := wideShiftsRow.holds Try.pinned (OpenSpec.ofChange wideShiftsWrong)

/-- 'regattalaw01.WideQuotients': WHATEVER THE INPUT: true; the input reads as it did. -/
def wideQuotientsSpec : ChangeSpec := { name := "wideQuotients", fn := fun _ => fun
  | [d1, d2] => { results := [.lit (.bool true)], args := [d1, d2] }
  | _ => none }
def wideQuotientsRow : OpenClaim := { program := "ytdnccplmpgcleaa", sum := "5786deee34c22148df25f86c2f35773f85d4fde5f3a42d5916428dae38af19fb", func := "regatta/regattalaw01.WideQuotients", spec := "wideQuotients", inPlace := ["math/bits.Sub64", "math/bits.Add64"], named := ["math/bits.divideError", "math/bits.overflowError"], apart := false }
def WideQuotientsSaid : Prop := wideQuotientsRow.holds Try.pinned (OpenSpec.ofChange wideQuotientsSpec)

/-- ITS FALSE NEIGHBOUR: 'it returns false'. Refute it at one input. -/
def wideQuotientsWrong : ChangeSpec := { name := "wideQuotients", fn := fun _ => fun
  | [d1, d2] => { results := [.lit (.bool false)], args := [d1, d2] }
  | _ => none }
def WideQuotientsWrongFalsely : Prop := wideQuotientsRow.holds Try.pinned (OpenSpec.ofChange wideQuotientsWrong)

/-- 'regattalaw01.WideLongRoots': WHATEVER THE INPUT: true; the input reads as it did. -/
def wideLongRootsSpec : ChangeSpec := { name := "wideLongRoots", fn := fun _ => fun
  | [d] => { results := [.lit (.bool true)], args := [d] }
  | _ => none }
def wideLongRootsRow : OpenClaim := { program := "ytdnccplmpgcleaa", sum := "5786deee34c22148df25f86c2f35773f85d4fde5f3a42d5916428dae38af19fb", func := "regatta/regattalaw01.WideLongRoots", spec := "wideLongRoots", inPlace := ["math/bits.Sub64", "math/bits.Add64"], named := ["math/bits.divideError", "math/bits.overflowError"], apart := false }
def WideLongRootsSaid : Prop := wideLongRootsRow.holds Try.pinned (OpenSpec.ofChange wideLongRootsSpec)

/-- ITS FALSE NEIGHBOUR: 'it returns false'. Refute it at one input. -/
def wideLongRootsWrong : ChangeSpec := { name := "wideLongRoots", fn := fun _ => fun
  | [d] => { results := [.lit (.bool false)], args := [d] }
  | _ => none }
def WideLongRootsWrongFalsely : Prop := wideLongRootsRow.holds Try.pinned (OpenSpec.ofChange wideLongRootsWrong)

/-- 'regattalaw01.WideOrders': WHATEVER THE INPUT: true; the input reads as it did. -/
def wideOrdersSpec : ChangeSpec := { name := "wideOrders", fn := fun _ => fun
  | [d1, d2, d3] => { results := [.lit (.bool true)], args := [d1, d2, d3] }
  | _ => none }
def wideOrdersRow : OpenClaim := { program := "ytdnccplmpgcleaa", sum := "5786deee34c22148df25f86c2f35773f85d4fde5f3a42d5916428dae38af19fb", func := "regatta/regattalaw01.WideOrders", spec := "wideOrders", inPlace := ["math/bits.Sub64", "math/bits.Add64"], named := ["math/bits.divideError", "math/bits.overflowError"], apart := false }
def WideOrdersSaid : Prop := wideOrdersRow.holds Try.pinned (OpenSpec.ofChange wideOrdersSpec)

/-- ITS FALSE NEIGHBOUR: 'it returns false'. Refute it at one input. -/
def wideOrdersWrong : ChangeSpec := { name := "wideOrders", fn := fun _ => fun
  | [d1, d2, d3] => { results := [.lit (.bool false)], args := [d1, d2, d3] }
  | _ => none }
def WideOrdersWrongFalsely : Prop := wideOrdersRow.holds Try.pinned (OpenSpec.ofChange wideOrdersWrong)

/-- 'regattalaw01.WideBack': WHATEVER THE INPUT: true; the input reads as it did. -/
def wideBackSpec : ChangeSpec := { name := "wideBack", fn := fun _ => fun
  | [d1, d2, d3] => { results := [.lit (.bool true)], args := [d1, d2, d3] }
  | _ => none }
def wideBackRow : OpenClaim := { program := "ytdnccplmpgcleaa", sum := "5786deee34c22148df25f86c2f35773f85d4fde5f3a42d5916428dae38af19fb", func := "regatta/regattalaw01.WideBack", spec := "wideBack", inPlace := ["math/bits.Sub64", "math/bits.Add64"], named := ["math/bits.divideError", "math/bits.overflowError"], apart := false }
def WideBackSaid : Prop := wideBackRow.holds Try.pinned (OpenSpec.ofChange wideBackSpec)

/-- ITS FALSE NEIGHBOUR: 'it returns false'. Refute it at one input. -/
def wideBackWrong : ChangeSpec := { name := "wideBack", fn := fun _ => fun
  | [d1, d2, d3] => { results := [.lit (.bool false)], args := [d1, d2, d3] }
  | _ => none }
def WideBackWrongFalsely : Prop := wideBackRow.holds Try.pinned (OpenSpec.ofChange wideBackWrong)

/-- 'regattalaw01.WideClamps': WHATEVER THE INPUT: true; the input reads as it did. -/
def wideClampsSpec : ChangeSpec := { name := "wideClamps", fn := fun _ => fun
  | [d] => { results := [.lit (.bool true)], args := [d] }
  | _ => none }
def wideClampsRow : OpenClaim := { program := "ytdnccplmpgcleaa", sum := "5786deee34c22148df25f86c2f35773f85d4fde5f3a42d5916428dae38af19fb", func := "regatta/regattalaw01.WideClamps", spec := "wideClamps", inPlace := ["math/bits.Sub64", "math/bits.Add64"], named := ["math/bits.divideError", "math/bits.overflowError"], apart := false }
def WideClampsSaid : Prop := wideClampsRow.holds Try.pinned (OpenSpec.ofChange wideClampsSpec)

/-- ITS FALSE NEIGHBOUR: 'it returns false'. Refute it at one input. -/
def wideClampsWrong : ChangeSpec := { name := "wideClamps", fn := fun _ => fun
  | [d] => { results := [.lit (.bool false)], args := [d] }
  | _ => none }
def WideClampsWrongFalsely : Prop := wideClampsRow.holds Try.pinned (OpenSpec.ofChange wideClampsWrong)

/-- 'regattalaw01.WideSpreads': WHATEVER THE INPUT: true; the input reads as it did. -/
def wideSpreadsSpec : ChangeSpec := { name := "wideSpreads", fn := fun _ => fun
  | [d1, d2, d3] => { results := [.lit (.bool true)], args := [d1, d2, d3] }
  | _ => none }
def wideSpreadsRow : OpenClaim := { program := "ytdnccplmpgcleaa", sum := "5786deee34c22148df25f86c2f35773f85d4fde5f3a42d5916428dae38af19fb", func := "regatta/regattalaw01.WideSpreads", spec := "wideSpreads", inPlace := ["math/bits.Sub64", "math/bits.Add64"], named := ["math/bits.divideError", "math/bits.overflowError"], apart := false }
def WideSpreadsSaid : Prop := wideSpreadsRow.holds Try.pinned (OpenSpec.ofChange wideSpreadsSpec)

/-- ITS FALSE NEIGHBOUR: 'it returns false'. Refute it at one input. -/
def wideSpreadsWrong : ChangeSpec := { name := "wideSpreads", fn := fun _ => fun
  | [d1, d2, d3] => { results := [.lit (.bool false)], args := [d1, d2, d3] }
  | _ => none }
def WideSpreadsWrongFalsely : Prop := wideSpreadsRow.holds Try.pinned (OpenSpec.ofChange wideSpreadsWrong)

/-- 'regattalaw01.WideNear': WHATEVER THE INPUT: true; the input reads as it did. -/
def wideNearSpec : ChangeSpec := { name := "wideNear", fn := fun _ => fun
  | [d1, d2, d3] => { results := [.lit (.bool true)], args := [d1, d2, d3] }
  | _ => none }
def wideNearRow : OpenClaim := { program := "ytdnccplmpgcleaa", sum := "5786deee34c22148df25f86c2f35773f85d4fde5f3a42d5916428dae38af19fb", func := "regatta/regattalaw01.WideNear", spec := "wideNear", inPlace := ["math/bits.Sub64", "math/bits.Add64"], named := ["math/bits.divideError", "math/bits.overflowError"], apart := false }
def WideNearSaid : Prop := wideNearRow.holds Try.pinned (OpenSpec.ofChange wideNearSpec)

/-- ITS FALSE NEIGHBOUR: 'it returns false'. Refute it at one input. -/
def wideNearWrong : ChangeSpec := { name := "wideNear", fn := fun _ => fun
  | [d1, d2, d3] => { results := [.lit (.bool false)], args := [d1, d2, d3] }
  | _ => none }
def WideNearWrongFalsely : Prop := wideNearRow.holds Try.pinned (OpenSpec.ofChange wideNearWrong)

/-- 'regattalaw01.WideLongBetween': WHATEVER THE INPUT: true; the input reads as it did. -/
def wideLongBetweenSpec : ChangeSpec := { name := "wideLongBetween", fn := fun _ => fun
  | [d1, d2] => { results := [.lit (.bool true)], args := [d1, d2] }
  | _ => none }
def wideLongBetweenRow : OpenClaim := { program := "ytdnccplmpgcleaa", sum := "5786deee34c22148df25f86c2f35773f85d4fde5f3a42d5916428dae38af19fb", func := "regatta/regattalaw01.WideLongBetween", spec := "wideLongBetween", inPlace := ["math/bits.Sub64", "math/bits.Add64"], named := ["math/bits.divideError", "math/bits.overflowError"], apart := false }
def WideLongBetweenSaid : Prop := wideLongBetweenRow.holds Try.pinned (OpenSpec.ofChange wideLongBetweenSpec)

/-- ITS FALSE NEIGHBOUR: 'it returns false'. Refute it at one input. -/
def wideLongBetweenWrong : ChangeSpec := { name := "wideLongBetween", fn := fun _ => fun
  | [d1, d2] => { results := [.lit (.bool false)], args := [d1, d2] }
  | _ => none }
def WideLongBetweenWrongFalsely : Prop := wideLongBetweenRow.holds Try.pinned (OpenSpec.ofChange wideLongBetweenWrong)

/-- 'regattalaw01.WideLongSums': WHATEVER THE INPUT: true; the input reads as it did. -/
def wideLongSumsSpec : ChangeSpec := { name := "wideLongSums", fn := fun _ => fun
  | [d1, d2, d3] => { results := [.lit (.bool true)], args := [d1, d2, d3] }
  | _ => none }
def wideLongSumsRow : OpenClaim := { program := "ytdnccplmpgcleaa", sum := "5786deee34c22148df25f86c2f35773f85d4fde5f3a42d5916428dae38af19fb", func := "regatta/regattalaw01.WideLongSums", spec := "wideLongSums", inPlace := ["math/bits.Sub64", "math/bits.Add64"], named := ["math/bits.divideError", "math/bits.overflowError"], apart := false }
def WideLongSumsSaid : Prop := wideLongSumsRow.holds Try.pinned (OpenSpec.ofChange wideLongSumsSpec)

/-- ITS FALSE NEIGHBOUR: 'it returns false'. Refute it at one input. -/
def wideLongSumsWrong : ChangeSpec := { name := "wideLongSums", fn := fun _ => fun
  | [d1, d2, d3] => { results := [.lit (.bool false)], args := [d1, d2, d3] }
  | _ => none }
def WideLongSumsWrongFalsely : Prop := wideLongSumsRow.holds Try.pinned (OpenSpec.ofChange wideLongSumsWrong)

/-- 'regattalaw01.WideLongAll': WHATEVER THE INPUT: true; the input reads as it did. -/
def wideLongAllSpec : ChangeSpec := { name := "wideLongAll", fn := fun _ => fun
  | [d1, d2] => { results := [.lit (.bool true)], args := [d1, d2] }
  | _ => none }
def wideLongAllRow : OpenClaim := { program := "ytdnccplmpgcleaa", sum := "5786deee34c22148df25f86c2f35773f85d4fde5f3a42d5916428dae38af19fb", func := "regatta/regattalaw01.WideLongAll", spec := "wideLongAll", inPlace := ["math/bits.Sub64", "math/bits.Add64"], named := ["math/bits.divideError", "math/bits.overflowError"], apart := false }
def WideLongAllSaid : Prop := wideLongAllRow.holds Try.pinned (OpenSpec.ofChange wideLongAllSpec)

/-- ITS FALSE NEIGHBOUR: 'it returns false'. Refute it at one input. -/
def wideLongAllWrong : ChangeSpec := { name := "wideLongAll", fn := fun _ => fun
  | [d1, d2] => { results := [.lit (.bool false)], args := [d1, d2] }
  | _ => none }
def WideLongAllWrongFalsely : Prop := wideLongAllRow.holds Try.pinned (OpenSpec.ofChange wideLongAllWrong)

/- THE SECOND FORM. 'bulk': how many values and letters a reading holds, each counted each time it is reached (what is shared counts as often as it is met; a slice's spare places count too). A statement '..UptoSaid' is the law's where the arguments, and the package variables that the reading takes, are together of bulk at most 1048576: NARROWER than '..Said'. Prove '..Said' where nothing that the law and all that it calls make is longer than what came in: it says more and counts as full. Else prove '..UptoSaid'. A law counts once. -/
mutual
def uptoBulk {H : Type} : DataW H → Nat
  | .lit (.string bytes) => bytes.length + 1
  | .lit _ => 1
  | .nil => 1
  | .ptr d => uptoBulk d + 1
  | .slice elems spare => uptoBulkAll elems + uptoBulkAll spare + 1
  | .agg parts => uptoBulkAll parts + 1
  | .iface _ d => uptoBulk d + 1
  | .map entries => uptoBulkEntries entries + 1
  | .held _ => 1
def uptoBulkAll {H : Type} : List (DataW H) → Nat
  | [] => 0
  | d :: r => uptoBulk d + uptoBulkAll r
def uptoBulkEntries {H : Type} : List (Lit × DataW H) → Nat
  | [] => 0
  | x :: r => uptoBulkEntry x + uptoBulkEntries r
def uptoBulkEntry {H : Type} : Lit × DataW H → Nat
  | (.string bytes, d) => bytes.length + uptoBulk d + 1
  | (_, d) => uptoBulk d + 1
 end
def uptoSmall : (H : Type) → List (DataW H) → Bool := fun _ ds => decide (uptoBulkAll ds ≤ 1048576)
def OpenSpec.upto (s : _root_.Go.ChangeSpec) : _root_.Go.OpenSpec := { _root_.Go.OpenSpec.ofChange s with cond := some uptoSmall }

/-- 'regattalaw01.WideSums', WHERE WHAT IT READS IS OF BULK AT MOST 1048576: true; the input reads as it did. -/
def wideSumsUptoRow : OpenClaim := { program := "ytdnccplmpgcleaa", sum := "5786deee34c22148df25f86c2f35773f85d4fde5f3a42d5916428dae38af19fb", func := "regatta/regattalaw01.WideSums", spec := "wideSums", inPlace := ["math/bits.Sub64", "math/bits.Add64"], named := ["math/bits.divideError", "math/bits.overflowError"], apart := false, narrowed := true }
def WideSumsUptoSaid : Prop := wideSumsUptoRow.holds Try.pinned (OpenSpec.upto wideSumsSpec)

/-- 'regattalaw01.WideProducts', WHERE WHAT IT READS IS OF BULK AT MOST 1048576: true; the input reads as it did. -/
def wideProductsUptoRow : OpenClaim := { program := "ytdnccplmpgcleaa", sum := "5786deee34c22148df25f86c2f35773f85d4fde5f3a42d5916428dae38af19fb", func := "regatta/regattalaw01.WideProducts", spec := "wideProducts", inPlace := ["math/bits.Sub64", "math/bits.Add64"], named := ["math/bits.divideError", "math/bits.overflowError"], apart := false, narrowed := true }
def WideProductsUptoSaid : Prop := wideProductsUptoRow.holds Try.pinned (OpenSpec.upto wideProductsSpec)

/-- 'regattalaw01.WideShifts', WHERE WHAT IT READS IS OF BULK AT MOST 1048576: true; the input reads as it did. -/
def wideShiftsUptoRow : OpenClaim := { program := "ytdnccplmpgcleaa", sum := "5786deee34c22148df25f86c2f35773f85d4fde5f3a42d5916428dae38af19fb", func := "regatta/regattalaw01.WideShifts", spec := "wideShifts", inPlace := ["math/bits.Sub64", "math/bits.Add64"], named := ["math/bits.divideError", "math/bits.overflowError"], apart := false, narrowed := true }
def WideShiftsUptoSaid : Prop := wideShiftsUptoRow.holds Try.pinned (OpenSpec.upto wideShiftsSpec)

/-- 'regattalaw01.WideQuotients', WHERE WHAT IT READS IS OF BULK AT MOST 1048576: true; the input reads as it did. -/
def wideQuotientsUptoRow : OpenClaim := { program := "ytdnccplmpgcleaa", sum := "5786deee34c22148df25f86c2f35773f85d4fde5f3a42d5916428dae38af19fb", func := "regatta/regattalaw01.WideQuotients", spec := "wideQuotients", inPlace := ["math/bits.Sub64", "math/bits.Add64"], named := ["math/bits.divideError", "math/bits.overflowError"], apart := false, narrowed := true }
def WideQuotientsUptoSaid : Prop := wideQuotientsUptoRow.holds Try.pinned (OpenSpec.upto wideQuotientsSpec)

/-- 'regattalaw01.WideLongRoots', WHERE WHAT IT READS IS OF BULK AT MOST 1048576: true; the input reads as it did. -/
def wideLongRootsUptoRow : OpenClaim := { program := "ytdnccplmpgcleaa", sum := "5786deee34c22148df25f86c2f35773f85d4fde5f3a42d5916428dae38af19fb", func := "regatta/regattalaw01.WideLongRoots", spec := "wideLongRoots", inPlace := ["math/bits.Sub64", "math/bits.Add64"], named := ["math/bits.divideError", "math/bits.overflowError"], apart := false, narrowed := true }
def WideLongRootsUptoSaid : Prop := wideLongRootsUptoRow.holds Try.pinned (OpenSpec.upto wideLongRootsSpec)

/-- 'regattalaw01.WideOrders', WHERE WHAT IT READS IS OF BULK AT MOST 1048576: true; the input reads as it did. -/
def wideOrdersUptoRow : OpenClaim := { program := "ytdnccplmpgcleaa", sum := "5786deee34c22148df25f86c2f35773f85d4fde5f3a42d5916428dae38af19fb", func := "regatta/regattalaw01.WideOrders", spec := "wideOrders", inPlace := ["math/bits.Sub64", "math/bits.Add64"], named := ["math/bits.divideError", "math/bits.overflowError"], apart := false, narrowed := true }
def WideOrdersUptoSaid : Prop := wideOrdersUptoRow.holds Try.pinned (OpenSpec.upto wideOrdersSpec)

/-- 'regattalaw01.WideBack', WHERE WHAT IT READS IS OF BULK AT MOST 1048576: true; the input reads as it did. -/
def wideBackUptoRow : OpenClaim := { program := "ytdnccplmpgcleaa", sum := "5786deee34c22148df25f86c2f35773f85d4fde5f3a42d5916428dae38af19fb", func := "regatta/regattalaw01.WideBack", spec := "wideBack", inPlace := ["math/bits.Sub64", "math/bits.Add64"], named := ["math/bits.divideError", "math/bits.overflowError"], apart := false, narrowed := true }
def WideBackUptoSaid : Prop := wideBackUptoRow.holds Try.pinned (OpenSpec.upto wideBackSpec)

/-- 'regattalaw01.WideClamps', WHERE WHAT IT READS IS OF BULK AT MOST 1048576: true; the input reads as it did. -/
def wideClampsUptoRow : OpenClaim := { program := "ytdnccplmpgcleaa", sum := "5786deee34c22148df25f86c2f35773f85d4fde5f3a42d5916428dae38af19fb", func := "regatta/regattalaw01.WideClamps", spec := "wideClamps", inPlace := ["math/bits.Sub64", "math/bits.Add64"], named := ["math/bits.divideError", "math/bits.overflowError"], apart := false, narrowed := true }
def WideClampsUptoSaid : Prop := wideClampsUptoRow.holds Try.pinned (OpenSpec.upto wideClampsSpec)

/-- 'regattalaw01.WideSpreads', WHERE WHAT IT READS IS OF BULK AT MOST 1048576: true; the input reads as it did. -/
def wideSpreadsUptoRow : OpenClaim := { program := "ytdnccplmpgcleaa", sum := "5786deee34c22148df25f86c2f35773f85d4fde5f3a42d5916428dae38af19fb", func := "regatta/regattalaw01.WideSpreads", spec := "wideSpreads", inPlace := ["math/bits.Sub64", "math/bits.Add64"], named := ["math/bits.divideError", "math/bits.overflowError"], apart := false, narrowed := true }
def WideSpreadsUptoSaid : Prop := wideSpreadsUptoRow.holds Try.pinned (OpenSpec.upto wideSpreadsSpec)

/-- 'regattalaw01.WideNear', WHERE WHAT IT READS IS OF BULK AT MOST 1048576: true; the input reads as it did. -/
def wideNearUptoRow : OpenClaim := { program := "ytdnccplmpgcleaa", sum := "5786deee34c22148df25f86c2f35773f85d4fde5f3a42d5916428dae38af19fb", func := "regatta/regattalaw01.WideNear", spec := "wideNear", inPlace := ["math/bits.Sub64", "math/bits.Add64"], named := ["math/bits.divideError", "math/bits.overflowError"], apart := false, narrowed := true }
def WideNearUptoSaid : Prop := wideNearUptoRow.holds Try.pinned (OpenSpec.upto wideNearSpec)

/-- 'regattalaw01.WideLongBetween', WHERE WHAT IT READS IS OF BULK AT MOST 1048576: true; the input reads as it did. -/
def wideLongBetweenUptoRow : OpenClaim := { program := "ytdnccplmpgcleaa", sum := "5786deee34c22148df25f86c2f35773f85d4fde5f3a42d5916428dae38af19fb", func := "regatta/regattalaw01.WideLongBetween", spec := "wideLongBetween", inPlace := ["math/bits.Sub64", "math/bits.Add64"], named := ["math/bits.divideError", "math/bits.overflowError"], apart := false, narrowed := true }
def WideLongBetweenUptoSaid : Prop := wideLongBetweenUptoRow.holds Try.pinned (OpenSpec.upto wideLongBetweenSpec)

/-- 'regattalaw01.WideLongSums', WHERE WHAT IT READS IS OF BULK AT MOST 1048576: true; the input reads as it did. -/
def wideLongSumsUptoRow : OpenClaim := { program := "ytdnccplmpgcleaa", sum := "5786deee34c22148df25f86c2f35773f85d4fde5f3a42d5916428dae38af19fb", func := "regatta/regattalaw01.WideLongSums", spec := "wideLongSums", inPlace := ["math/bits.Sub64", "math/bits.Add64"], named := ["math/bits.divideError", "math/bits.overflowError"], apart := false, narrowed := true }
def WideLongSumsUptoSaid : Prop := wideLongSumsUptoRow.holds Try.pinned (OpenSpec.upto wideLongSumsSpec)

/-- 'regattalaw01.WideLongAll', WHERE WHAT IT READS IS OF BULK AT MOST 1048576: true; the input reads as it did. -/
def wideLongAllUptoRow : OpenClaim := { program := "ytdnccplmpgcleaa", sum := "5786deee34c22148df25f86c2f35773f85d4fde5f3a42d5916428dae38af19fb", func := "regatta/regattalaw01.WideLongAll", spec := "wideLongAll", inPlace := ["math/bits.Sub64", "math/bits.Add64"], named := ["math/bits.divideError", "math/bits.overflowError"], apart := false, narrowed := true }
def WideLongAllUptoSaid : Prop := wideLongAllUptoRow.holds Try.pinned (OpenSpec.upto wideLongAllSpec)

end Rows
end Go.Proofs.Ytdnccplmpgcleaa
