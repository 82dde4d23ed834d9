import Derived.Test.YtcdnkecgnfdfnaaWOSteps2
/- The law OuterSteps for whatever comes in. -/
namespace Go.Proofs.Ytcdnkecgnfdfnaa
open Go.RowKit

theorem outerSteps_walk (r m : Int) (A : Option Addr) (n cp : Nat) (ps : List Int) (B : Option Addr) (k cq : Nat) (bs : List Int) (C : Option Addr) (l cr : Nat) (gs : List Int) (w : World) (i0 : In64 r ∧ In64 m) (i1 : Row64 w A n ps ∧ Row64 w B k bs) (i2 : Row64 w C l gs) :
    Calls Try.prog 4 #[.agg #[.int .i64 r, .int .i64 m], .agg #[.slice A n cp, .slice B k cq], .slice C l cr] w fun e w' => e = .returned (.bool true) ∧ Below w.heap.size w w' := by
  by_cases h : n ≤ 200 ∧ k ≤ 200 ∧ l ≤ 200
  · by_cases h1 : r < 0 ∨ m < 0 ∨ 4294967296 ≤ m
    · exact osteps_rule A B C n k l cp cq cr r m w h.1 h.2.1 h.2.2 h1
    · by_cases h2 : n ≠ l ∨ k ≠ l
      · exact osteps_shape A B C n k l cp cq cr r m w h.1 h.2.1 h.2.2 (by omega) (by omega) (by omega) h2
      · obtain rfl : n = l := by omega
        obtain rfl : n = k := by omega
        exact osteps_main A B C n cp cq cr r m ps bs gs w h.1 (by omega) i0.1.2 (by omega) (by omega) i1.1.1 i1.2.1 i2.1 i1.1.2 i1.2.2 i2.2
  · exact osteps_big A B C n k l cp cq cr r m w h
end Go.Proofs.Ytcdnkecgnfdfnaa
