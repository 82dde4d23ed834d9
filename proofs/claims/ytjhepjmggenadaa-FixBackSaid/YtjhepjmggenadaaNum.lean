import Derived.RowKit
import Derived.Lib.Mul64
/- Whole numbers behind api.Wide: plain arithmetic, no program. -/
namespace Go.Proofs.Ytjhepjmggenadaa
open Go.RowKit

def hi (n : Int) : Int := n / 18446744073709551616
def lo (n : Int) : Int := n % 18446744073709551616
/-- The numbers of 128 bits. -/
def In128 (n : Int) : Prop := -170141183460469231731687303715884105728 ≤ n ∧ n < 170141183460469231731687303715884105728
def In64 (n : Int) : Prop := -9223372036854775808 ≤ n ∧ n < 9223372036854775808
def U64 (n : Int) : Prop := 0 ≤ n ∧ n < 18446744073709551616
/-- Wrapped round to 128 bits. -/
def w128 (n : Int) : Int := (n + 170141183460469231731687303715884105728) % 340282366920938463463374607431768211456 - 170141183460469231731687303715884105728
/-- A wide number. -/
def WV (n : Int) : Value := .agg #[.int .i64 (hi n), .int .u64 (lo n)]

theorem w128_in (n : Int) : In128 (w128 n) := by unfold In128 w128; omega
theorem w128_id {n : Int} (h : In128 n) : w128 n = n := by unfold In128 at h; unfold w128; omega
theorem hi_lo (n : Int) : hi n * 18446744073709551616 + lo n = n := by unfold hi lo; omega
theorem lo_u (n : Int) : U64 (lo n) := by unfold U64 lo; omega
theorem hi_in {n : Int} (h : In128 n) : In64 (hi n) := by unfold In128 at h; unfold In64 hi; omega
theorem mk_hi {h l : Int} (hl : U64 l) : hi (h * 18446744073709551616 + l) = h := by unfold U64 at hl; unfold hi; omega
theorem mk_lo {h l : Int} (hl : U64 l) : lo (h * 18446744073709551616 + l) = l := by unfold U64 at hl; unfold lo; omega
theorem mk_in {h l : Int} (hh : In64 h) (hl : U64 l) : In128 (h * 18446744073709551616 + l) := by unfold In64 at hh; unfold U64 at hl; unfold In128; omega
theorem in64_wide {n : Int} (h : In64 n) : In128 n := by unfold In64 at h; unfold In128; omega
theorem eq_of_parts {m n : Int} (h1 : hi m = hi n) (h2 : lo m = lo n) : m = n := by rw [← hi_lo m, ← hi_lo n, h1, h2]
theorem WV_zero : WV 0 = .agg #[.int .i64 0, .int .u64 0] := by unfold WV hi lo; simp

/-! ### what each function's words come to -/
theorem of_hi {n : Int} (h : In64 n) : hi n = n / 9223372036854775808 := by unfold In64 at h; unfold hi; omega
theorem of_lo (n : Int) : lo n = n % 18446744073709551616 := rfl

theorem add_lo (a b : Int) : lo (w128 (a + b)) = (lo a + lo b) % 18446744073709551616 := by unfold lo w128; omega
theorem add_hi (a b : Int) : hi (w128 (a + b)) = wrap64 ((hi a % 18446744073709551616 + hi b % 18446744073709551616 + (lo a + lo b) / 18446744073709551616) % 18446744073709551616) := by
  unfold hi lo w128 wrap64; omega
def bor (x y b : Int) : Int := if x < y + b then 1 else 0
theorem bor_01 (x y b : Int) : 0 ≤ bor x y b ∧ bor x y b ≤ 1 := by unfold bor; split <;> omega
theorem sub_lo (a b : Int) : lo (w128 (a - b)) = (lo a - lo b) % 18446744073709551616 := by unfold lo w128; omega
theorem sub_hi (a b : Int) : hi (w128 (a - b)) = wrap64 ((hi a % 18446744073709551616 - hi b % 18446744073709551616 - bor (lo a) (lo b) 0) % 18446744073709551616) := by
  unfold bor hi lo w128 wrap64; split <;> omega

end Go.Proofs.Ytjhepjmggenadaa
