import Derived.Test.YtcdnkecgnfdfnaaWOStill
import Derived.Test.YtcdnkecgnfdfnaaRowO
/- The law OuterStill for whatever comes in. -/
namespace Go.Proofs.Ytcdnkecgnfdfnaa
open Go.RowKit

theorem outerStill_walk (r m : Int) (A : Option Addr) (n cp : Nat) (ps : List Int) (C : Option Addr) (k cr : Nat) (gs : List Int) (w : World) (i0 : In64 r ∧ In64 m) (i1 : Row64 w A n ps) (i2 : Row64 w C k gs) :
    Calls Try.prog 3 #[.agg #[.int .i64 r, .int .i64 m], .slice A n cp, .slice C k cr] w fun e w' => e = .returned (.bool true) ∧ Below w.heap.size w w' := by
  by_cases h : 200 < n ∨ n ≠ k ∨ r < 0 ∨ m < 0 ∨ 4294967296 ≤ m
  · exact ostill_early A C n cp k cr r m w h
  · obtain rfl : n = k := by omega
    exact ostill_main A C n cp cr r m ps gs w (by omega) (by omega) i0.1.2 (by omega) (by omega) i1.1 i2.1 i1.2 i2.2
end Go.Proofs.Ytcdnkecgnfdfnaa
