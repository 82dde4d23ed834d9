import Derived.Test.YtfpeekdjdapcdaaU
/- Axpy: one part. -/
namespace Go.Proofs.Ytfpeekdjdapcdaa
open Go.RowKit
attribute [local go_sem ↓] Go.wp_at_zero Go.wp_at_succ

section
variable {W0 w w1 : World} {u : Option Nat}
theorem su_of (h : W0.grownBy w u) : W0.grownBy w u ∧ ∀ b o, b < W0.heap.size → ¬ some b = u → w.cell? ⟨b, o, none⟩ = W0.cell? ⟨b, o, none⟩ :=
  ⟨h, fun _ _ hb hn => gr_cell h hb hn⟩
theorem su_call (h : W0.grownBy w u ∧ ∀ b o, b < W0.heap.size → ¬ some b = u → w.cell? ⟨b, o, none⟩ = W0.cell? ⟨b, o, none⟩) (hb : Below w.heap.size w w1) :
    W0.grownBy w1 u ∧ ∀ b o, b < W0.heap.size → ¬ some b = u → w1.cell? ⟨b, o, none⟩ = W0.cell? ⟨b, o, none⟩ := su_of (gr_call h.1 hb)
theorem su_gr (h : W0.grownBy w u ∧ ∀ b o, b < W0.heap.size → ¬ some b = u → w.cell? ⟨b, o, none⟩ = W0.cell? ⟨b, o, none⟩) (hb : w.grownBy w1 u) :
    W0.grownBy w1 u ∧ ∀ b o, b < W0.heap.size → ¬ some b = u → w1.cell? ⟨b, o, none⟩ = W0.cell? ⟨b, o, none⟩ := su_of (gr_trans h.1 hb)
end
/-- One part of k times x and y. -/
def axI (k x y : Int) : Int := rnd (k * x + y * 4294967296) 4294967296
theorem axI_in (k x y : Int) (hk : In64 k) (hx : In64 x) (hy : In64 y) : In128 (k * x + y * 4294967296) := by
  have h1 : k * x ≤ 85070591730234615865843651857942052864 ∧ -85070591730234615865843651857942052864 ≤ k * x := by
    have := mul_in128 k x hk hx
    unfold In64 at hk hx
    have a1 : absI k ≤ 9223372036854775808 := by unfold absI; split <;> omega
    have a2 : absI x ≤ 9223372036854775808 := by unfold absI; split <;> omega
    have a3 : absI k * absI x ≤ 9223372036854775808 * 9223372036854775808 := Int.mul_le_mul a1 a2 (absI_nonneg x) (by omega)
    rw [← absI_mul] at a3
    have := absI_cases (k * x)
    omega
  unfold In64 at hy
  unfold In128
  omega
end Go.Proofs.Ytfpeekdjdapcdaa
