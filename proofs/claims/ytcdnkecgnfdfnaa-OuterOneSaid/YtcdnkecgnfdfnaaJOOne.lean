import Derived.Test.YtcdnkecgnfdfnaaWOOne
/- The law OuterOne for whatever comes in. -/
namespace Go.Proofs.Ytcdnkecgnfdfnaa
open Go.RowKit

theorem outerOne_walk (A : Option Addr) (n cp : Nat) (ps : List Int) (C : Option Addr) (k cr : Nat) (gs : List Int) (w : World) (i1 : Row64 w A n ps) (i2 : Row64 w C k gs) :
    Calls Try.prog 7 #[.slice A n cp, .slice C k cr] w fun e w' => e = .returned (.bool true) ∧ Below w.heap.size w w' := by
  by_cases h : 200 < n ∨ n ≠ k
  · exact oone_early A C n cp k cr w h
  · obtain rfl : n = k := by omega
    exact oone_main A C n cp cr ps gs w (by omega) i1.1 i2.1 i1.2 i2.2
end Go.Proofs.Ytcdnkecgnfdfnaa
