import Derived.Test.YtjhepjmggenadaaNum2
/- Long numbers: plain arithmetic, no program. -/
namespace Go.Proofs.Ytjhepjmggenadaa
open Go.RowKit

def In192 (n : Int) : Prop := -3138550867693340381917894711603833208051177722232017256448 ≤ n ∧ n < 3138550867693340381917894711603833208051177722232017256448
def w192 (n : Int) : Int := (n + 3138550867693340381917894711603833208051177722232017256448) % 6277101735386680763835789423207666416102355444464034512896 - 3138550867693340381917894711603833208051177722232017256448
/-- The words of a number of 192 bits: the lowest, the middle one, the highest; and the highest as a signed one. -/
def q0 (n : Int) : Int := n % 18446744073709551616
def q1 (n : Int) : Int := n / 18446744073709551616 % 18446744073709551616
def q2 (n : Int) : Int := n / 18446744073709551616 / 18446744073709551616 % 18446744073709551616
def tp (n : Int) : Int := n / 18446744073709551616 / 18446744073709551616

theorem w192_in (n : Int) : In192 (w192 n) := by unfold In192 w192; omega
theorem w192_id {n : Int} (h : In192 n) : w192 n = n := by unfold In192 at h; unfold w192; omega
theorem q0_u (n : Int) : U64 (q0 n) := by unfold U64 q0; omega
theorem q1_u (n : Int) : U64 (q1 n) := by unfold U64 q1; omega
theorem q2_u (n : Int) : U64 (q2 n) := by unfold U64 q2; omega
theorem tp_in {n : Int} (h : In192 n) : In64 (tp n) := by unfold In192 at h; unfold In64 tp; omega
theorem tp_q2 (n : Int) : IntKind.u64.wrap (tp n) = q2 n := by rw [u64w]; rfl
theorem q_w192 (n : Int) : q0 (w192 n) = q0 n ∧ q1 (w192 n) = q1 n ∧ q2 (w192 n) = q2 n := by unfold q0 q1 q2 w192; omega
theorem tp_w192 (n : Int) : tp (w192 n) = wrap64 (q2 n) := by unfold tp w192 wrap64 q2; omega
theorem q_sum (n : Int) : tp n * 340282366920938463463374607431768211456 + q1 n * 18446744073709551616 + q0 n = n := by unfold tp q1 q0; omega
theorem mk_q {t m l : Int} (hm : U64 m) (hl : U64 l) : tp (t * 340282366920938463463374607431768211456 + m * 18446744073709551616 + l) = t ∧
    q1 (t * 340282366920938463463374607431768211456 + m * 18446744073709551616 + l) = m ∧ q0 (t * 340282366920938463463374607431768211456 + m * 18446744073709551616 + l) = l := by
  unfold U64 at hm hl; unfold tp q1 q0; omega
theorem mk_in192 {t m l : Int} (ht : In64 t) (hm : U64 m) (hl : U64 l) : In192 (t * 340282366920938463463374607431768211456 + m * 18446744073709551616 + l) := by
  unfold U64 at hm hl; unfold In64 at ht; unfold In192; omega
theorem wide_192 {n : Int} (h : In128 n) : In192 n := by unfold In128 at h; unfold In192; omega

theorem add_q (a b : Int) : q0 (a + b) = (q0 a + q0 b) % 18446744073709551616 ∧
    q1 (a + b) = (q1 a + q1 b + (q0 a + q0 b) / 18446744073709551616) % 18446744073709551616 ∧
    q2 (a + b) = (q2 a + q2 b + (q1 a + q1 b + (q0 a + q0 b) / 18446744073709551616) / 18446744073709551616) % 18446744073709551616 := by
  unfold q0 q1 q2; omega
theorem below_q (n : Int) : (wrap64 (q2 n) < 0) ↔ w192 n < 0 := by unfold wrap64 q2 w192; omega

theorem ext_q {n : Int} (h : In128 n) : tp n = hi n / 9223372036854775808 ∧ q1 n = IntKind.u64.wrap (hi n) ∧ q0 n = lo n := by
  unfold In128 at h; rw [u64w]; unfold tp q1 q0 hi lo; omega

/-- Clamped. -/
theorem clamp_q0 {n : Int} (h : In192 n) : (q1 n = IntKind.u64.wrap (wrap64 (q0 n) / 9223372036854775808) ∧ q2 n = IntKind.u64.wrap (wrap64 (q0 n) / 9223372036854775808)) ↔
    (-9223372036854775808 ≤ n ∧ n ≤ 9223372036854775807) := by
  have hs : (q0 n < 9223372036854775808 ∧ wrap64 (q0 n) / 9223372036854775808 = 0) ∨ (9223372036854775808 ≤ q0 n ∧ wrap64 (q0 n) / 9223372036854775808 = -1) := by
    have := q0_u n; unfold U64 at this; unfold wrap64; omega
  have e := q_sum n
  have h1 := q1_u n
  have h0 := q0_u n
  have ht := tp_in h
  have e2 : q2 n = tp n % 18446744073709551616 := rfl
  rw [u64w]
  unfold U64 at h0 h1; unfold In64 at ht
  generalize q0 n = x at *
  generalize q1 n = y at *
  generalize q2 n = z at *
  generalize tp n = t at *
  rcases hs with ⟨h2, h3⟩ | ⟨h2, h3⟩ <;> rw [h3] <;> constructor <;> intro h4 <;> omega
theorem clamp_q1 {n : Int} (h : -9223372036854775808 ≤ n ∧ n ≤ 9223372036854775807) : wrap64 (q0 n) = n := by unfold wrap64 q0; omega

/-! ### down by 2^n -/
theorem p128 : (2 : Int) ^ 128 = 340282366920938463463374607431768211456 := by decide
theorem in192_down {a : Int} (h : In192 a) (n : Nat) : In192 (a / 2 ^ n) := by
  have hp := pow_pos' n
  have h1 : (1 : Int) ≤ 2 ^ n := by omega
  obtain ⟨h2, h3⟩ := h
  refine ⟨?_, ?_⟩
  · rw [Int.le_ediv_iff_mul_le hp]
    have : (3138550867693340381917894711603833208051177722232017256448 : Int) * 1 ≤ 3138550867693340381917894711603833208051177722232017256448 * 2 ^ n := Int.mul_le_mul_of_nonneg_left h1 (by omega)
    omega
  · rw [Int.ediv_lt_iff_lt_mul hp]
    have : (3138550867693340381917894711603833208051177722232017256448 : Int) * 1 ≤ 3138550867693340381917894711603833208051177722232017256448 * 2 ^ n := Int.mul_le_mul_of_nonneg_left h1 (by omega)
    omega
/-- The sign, in all words above. -/
def fillq (a : Int) : Int := IntKind.u64.wrap (wrap64 (q2 a) / 9223372036854775808)
theorem fill_q {a : Int} (h : In192 a) : fillq a = a / 18446744073709551616 / 18446744073709551616 / 18446744073709551616 % 18446744073709551616 := by
  unfold In192 at h; unfold fillq; rw [u64w]; unfold wrap64 q2; omega
theorem fill_u (a : Int) : U64 (fillq a) := by unfold fillq; rw [u64w]; unfold U64; omega
theorem lo_shr (X : Int) (r : Nat) (hr : r ≤ 64) : lo (X / 2 ^ r) = bits .or .u64 (lo X / 2 ^ r) (IntKind.u64.wrap (lo (X / 18446744073709551616) * 2 ^ (64 - r))) := by
  have h := shr_lo X r hr
  have e : IntKind.u64.wrap (hi X) = lo (X / 18446744073709551616) := by rw [u64w]; rfl
  rw [e] at h
  exact h
theorem div_swap (a : Int) (k : Int) (hk : 0 < k) (n : Nat) : a / 2 ^ n / k = a / k / 2 ^ n := by
  have := pow_pos' n
  rw [Int.ediv_ediv_of_nonneg (by omega), Int.ediv_ediv_of_nonneg (by omega), Int.mul_comm]
theorem q0_lo (a : Int) : q0 a = lo a := rfl
theorem q1_lo (a : Int) : q1 a = lo (a / 18446744073709551616) := rfl
theorem q2_lo (a : Int) : q2 a = lo (a / 18446744073709551616 / 18446744073709551616) := rfl
theorem lo_fill {a : Int} (h : In192 a) : lo (a / 18446744073709551616 / 18446744073709551616 / 18446744073709551616) = fillq a := by rw [fill_q h]; rfl
/-- r places down, r below 64. -/
theorem down0 (a : Int) (h : In192 a) (r : Nat) (hr : r ≤ 64) :
    q0 (a / 2 ^ r) = bits .or .u64 (q0 a / 2 ^ r) (IntKind.u64.wrap (q1 a * 2 ^ (64 - r))) ∧
    q1 (a / 2 ^ r) = bits .or .u64 (q1 a / 2 ^ r) (IntKind.u64.wrap (q2 a * 2 ^ (64 - r))) ∧
    q2 (a / 2 ^ r) = bits .or .u64 (q2 a / 2 ^ r) (IntKind.u64.wrap (fillq a * 2 ^ (64 - r))) := by
  refine ⟨lo_shr a r hr, ?_, ?_⟩
  · rw [q1_lo, div_swap _ _ (by omega)]
    exact lo_shr (a / 18446744073709551616) r hr
  · rw [q2_lo, div_swap _ _ (by omega), div_swap _ _ (by omega), ← lo_fill h]
    exact lo_shr (a / 18446744073709551616 / 18446744073709551616) r hr
theorem q_up1 {a : Int} (h : In192 a) : In192 (a / 18446744073709551616) ∧ q0 (a / 18446744073709551616) = q1 a ∧ q1 (a / 18446744073709551616) = q2 a ∧ q2 (a / 18446744073709551616) = fillq a ∧ fillq (a / 18446744073709551616) = fillq a := by
  have h1 : In192 (a / 18446744073709551616) := by unfold In192 at h ⊢; omega
  refine ⟨h1, rfl, ?_, ?_, ?_⟩
  · unfold q1 q2; omega
  · rw [fill_q h]; unfold q2; omega
  · rw [fill_q h, fill_q h1]; unfold In192 at h; omega
theorem pow_add64 (n r s : Nat) (e : n = r + s) (a : Int) (k : Int) (hk : (2 : Int) ^ s = k) : a / 2 ^ n = a / k / 2 ^ r := by
  have hp := pow_pos' s
  rw [e, Int.pow_add, Int.mul_comm, hk, Int.ediv_ediv_of_nonneg (by omega)]
/-- What words.down answers, word by word: k words and r places down. -/
theorem down_words (a : Int) (h : In192 a) (n r : Nat) (hr : r ≤ 64) :
    (n = r → q0 (a / 2 ^ n) = bits .or .u64 (q0 a / 2 ^ r) (IntKind.u64.wrap (q1 a * 2 ^ (64 - r))) ∧
      q1 (a / 2 ^ n) = bits .or .u64 (q1 a / 2 ^ r) (IntKind.u64.wrap (q2 a * 2 ^ (64 - r))) ∧ q2 (a / 2 ^ n) = bits .or .u64 (q2 a / 2 ^ r) (IntKind.u64.wrap (fillq a * 2 ^ (64 - r)))) ∧
    (n = r + 64 → q0 (a / 2 ^ n) = bits .or .u64 (q1 a / 2 ^ r) (IntKind.u64.wrap (q2 a * 2 ^ (64 - r))) ∧
      q1 (a / 2 ^ n) = bits .or .u64 (q2 a / 2 ^ r) (IntKind.u64.wrap (fillq a * 2 ^ (64 - r))) ∧ q2 (a / 2 ^ n) = bits .or .u64 (fillq a / 2 ^ r) (IntKind.u64.wrap (fillq a * 2 ^ (64 - r)))) ∧
    (n = r + 128 → q0 (a / 2 ^ n) = bits .or .u64 (q2 a / 2 ^ r) (IntKind.u64.wrap (fillq a * 2 ^ (64 - r))) ∧
      q1 (a / 2 ^ n) = bits .or .u64 (fillq a / 2 ^ r) (IntKind.u64.wrap (fillq a * 2 ^ (64 - r))) ∧ q2 (a / 2 ^ n) = bits .or .u64 (fillq a / 2 ^ r) (IntKind.u64.wrap (fillq a * 2 ^ (64 - r)))) := by
  obtain ⟨i1, i2, i3, i4, i5⟩ := q_up1 h
  obtain ⟨j1, j2, j3, j4, j5⟩ := q_up1 i1
  have e2 : a / 18446744073709551616 / 18446744073709551616 = a / 340282366920938463463374607431768211456 := by rw [Int.ediv_ediv_of_nonneg (by omega)]; rfl
  refine ⟨fun e => ?_, fun e => ?_, fun e => ?_⟩
  · subst e; exact down0 a h n hr
  · rw [pow_add64 n r 64 e a _ p64]
    have := down0 _ i1 r hr
    rw [i2, i3, i4, i5] at this
    exact this
  · rw [pow_add64 n r 128 e a _ p128, ← e2]
    have := down0 _ j1 r hr
    rw [j2, j3, j4, j5, i3, i4, i5] at this
    exact this
/-- The same where no place is left over (Go shifts by 64 then: nothing comes in). -/
theorem or_zero64 (x : Int) (h : U64 x) (y : Int) : bits .or .u64 (x / 2 ^ 0) (IntKind.u64.wrap (y * 2 ^ (64 - 0))) = x := by
  have e : IntKind.u64.wrap (y * 2 ^ (64 - 0)) = 0 := by rw [u64w, show 64 - 0 = 64 from rfl, p64]; omega
  rw [e, or_comm64, or_u64 _ _ 64 (by omega) (by simp) (by simpa using h.1) (by simpa [p64] using h.2)]
  unfold U64 at h; simp; omega
end Go.Proofs.Ytjhepjmggenadaa
