import Derived.Test.YtcdnkecgnfdfnaaW4
import Derived.Test.YtcdnkecgnfdfnaaW1
/- Quotients and rounding of package wide. -/
namespace Go.Proofs.Ytcdnkecgnfdfnaa
open Go.RowKit

/-- A number without its sign. -/
def absI (a : Int) : Int := if a < 0 then -a else a
theorem abs_hi (a : Int) (h : In128 a) (h0 : a < 0) : IntKind.u64.wrap (hi (w128 (-a))) = hi (absI a) ∧ lo (w128 (-a)) = lo (absI a) := by
  unfold In128 at h; rw [u64w]; unfold absI; rw [if_pos h0]; unfold hi lo w128; omega
theorem abs_hi' (a : Int) (h : In128 a) (h0 : ¬ a < 0) : IntKind.u64.wrap (hi a) = hi (absI a) ∧ lo a = lo (absI a) := by
  unfold In128 at h; rw [u64w]; unfold absI; rw [if_neg h0]; unfold hi lo; omega
theorem hi_neg (a : Int) : hi a < 0 ↔ a < 0 := by unfold hi; omega

/-- Rounded: n by d (above 0), to the nearest, of two the even one. -/
def rnd (n d : Int) : Int := if d < 2 * (n % d) ∨ 2 * (n % d) = d ∧ n / d % 2 = 1 then n / d + 1 else n / d
/-- .. and by whatever is not 0. -/
def quoI (a d : Int) : Int := if decide (a < 0) = decide (d < 0) then rnd (absI a) (absI d) else -rnd (absI a) (absI d)

theorem parts_div (H L D : Int) (hD : 0 < D) (hL : U64 L) :
    (H * 18446744073709551616 + L) / D = (H / D) * 18446744073709551616 + ((H % D) * 18446744073709551616 + L) / D ∧
    (H * 18446744073709551616 + L) % D = ((H % D) * 18446744073709551616 + L) % D ∧
    0 ≤ ((H % D) * 18446744073709551616 + L) / D ∧ ((H % D) * 18446744073709551616 + L) / D < 18446744073709551616 := by
  obtain ⟨l0, l1⟩ := hL
  have e := Int.mul_ediv_add_emod H D
  have e1 := Int.emod_nonneg H (show D ≠ 0 by omega)
  have e2 := Int.emod_lt_of_pos H hD
  have h1 : H * 18446744073709551616 + L = ((H % D) * 18446744073709551616 + L) + D * (H / D * 18446744073709551616) := by
    rw [← Int.mul_assoc]; generalize D * (H / D) = m at *; omega
  refine ⟨?_, ?_, Int.ediv_nonneg (by omega) (by omega), Int.ediv_lt_of_lt_mul hD (by omega)⟩
  · conv => lhs; rw [h1]
    rw [Int.add_mul_ediv_left _ _ (by omega)]; omega
  · conv => lhs; rw [h1]
    rw [Int.add_mul_emod_self_left]
theorem up_words (T b P : Int) (hP : P = T * 18446744073709551616 + b + 1) :
    wrap64 (T + (b + 1) / 18446744073709551616) = hi (w128 P) ∧ (b + 1) % 18446744073709551616 = lo (w128 P) := by
  subst hP; unfold wrap64 hi lo w128; omega
theorem at_words (T b P : Int) (hP : P = T * 18446744073709551616 + b) (hb : U64 b) : wrap64 T = hi (w128 P) ∧ b = lo (w128 P) := by
  subst hP; exact ⟨(hi_of T b hb).symm, (lo_of T b hb).symm⟩
theorem w128_neg (P : Int) : w128 (-(w128 P)) = w128 (-P) := by unfold w128; omega
theorem abs_words {a : Int} (h : In128 a) : 0 ≤ hi (absI a) ∧ hi (absI a) ≤ 9223372036854775808 := by
  unfold In128 at h; unfold absI hi; split <;> omega

end Go.Proofs.Ytcdnkecgnfdfnaa
