import Derived.Test.YtfpeekdjdapcdaaV1
/- each over a row of numbers; Axpy. -/
namespace Go.Proofs.Ytfpeekdjdapcdaa
open Go.RowKit
attribute [local go_sem ↓] Go.wp_at_zero Go.wp_at_succ

theorem own_next {B : Nat} {w : World} {V : Value} {v : Nat → Int} {k : Nat} (h : w.ownsRow B 22 1 V (k + 1) ((rowI v k).map iv ++ [.int .i64 (clampI (v k))])) : OwnF B w V (rowI v (k + 1)) := by
  unfold OwnF
  rw [rowI_length, rowI_succ, List.map_append]
  exact h
theorem own_row {B : Nat} {w : World} {V : Value} {v : Nat → Int} {k : Nat} (h : OwnF B w V (rowI v k)) : w.ownsRow B 22 1 V k ((rowI v k).map iv) := by
  unfold OwnF at h; rwa [rowI_length] at h
/-- Vectors, one after another in a block. -/
def Sls (w : World) (b off m : Nat) (As : Nat → Option Addr) (ns cs : Nat → Nat) : Prop := ∀ j, j < m → w.cell? ⟨b, off + j, none⟩ = some (.slice (As j) (ns j) (cs j))
end Go.Proofs.Ytfpeekdjdapcdaa
