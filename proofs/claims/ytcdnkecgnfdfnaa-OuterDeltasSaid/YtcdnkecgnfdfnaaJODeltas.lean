import Derived.Test.YtcdnkecgnfdfnaaWODeltas
/- The law OuterDeltas for whatever comes in. -/
namespace Go.Proofs.Ytcdnkecgnfdfnaa
open Go.RowKit

theorem outerDeltas_walk (A : Option Addr) (n cp : Nat) (ps : List Int) (C : Option Addr) (k cr : Nat) (gs : List Int) (w : World) (i1 : Row64 w A n ps) (i2 : Row64 w C k gs) :
    Calls Try.prog 6 #[.slice A n cp, .slice C k cr] w fun e w' => e = .returned (.bool true) ∧ Below w.heap.size w w' := by
  by_cases h : 200 < n ∨ 200 < k
  · exact odel_early A C n cp k cr w h
  · by_cases h2 : n = k
    · subst h2
      exact odel_main A C n cp cr ps gs w (by omega) i1.1 i2.1 i1.2 i2.2
    · exact odel_shape A C n cp k cr w (by omega) (by omega) h2
end Go.Proofs.Ytcdnkecgnfdfnaa
