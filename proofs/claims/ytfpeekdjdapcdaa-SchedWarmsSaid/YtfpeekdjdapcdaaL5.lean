import Derived.Test.YtfpeekdjdapcdaaL4
import Derived.LoopTactic
/- Long numbers: the root. -/
namespace Go.Proofs.Ytfpeekdjdapcdaa
open Go.RowKit
attribute [local go_sem ↓] Go.wp_at_zero Go.wp_at_succ

/-- The greatest whole number whose square is not above n (n from 0 on): plain. -/
def isRoot (n r : Int) : Prop := 0 ≤ r ∧ r * r ≤ n ∧ n < (r + 1) * (r + 1)

/-- After i of 63 rounds: the top bits of the root. -/
structure Rooted (n : Int) (i : Nat) (r : Int) : Prop where
  r0 : 0 ≤ r
  dvd : ∃ c, r = c * 2 ^ (63 - i)
  low : r * r ≤ n
  top : n < (r + 2 ^ (63 - i)) * (r + 2 ^ (63 - i))

theorem rooted_start (n : Int) (h0 : 0 ≤ n) (h1 : n < 85070591730234615865843651857942052864) : Rooted n 0 0 := by
  refine ⟨Int.le_refl _, ⟨0, by simp⟩, by simpa using h0, ?_⟩
  rw [show (2 : Int) ^ (63 - 0) = 9223372036854775808 by decide]
  omega
theorem rooted_lt {n : Int} {i : Nat} {r : Int} (h : Rooted n i r) (hi : i ≤ 63) (h1 : n < 85070591730234615865843651857942052864) : r + 2 ^ (63 - i) ≤ 9223372036854775808 := by
  obtain ⟨c, hc⟩ := h.dvd
  have hp := pow_pos' (63 - i)
  have hpr : (2 : Int) ^ (63 - i) * 2 ^ i = 9223372036854775808 := by rw [← Int.pow_add, show 63 - i + i = 63 by omega]; decide
  have hr : r < 9223372036854775808 := by
    rcases (by omega : r < 9223372036854775808 ∨ 9223372036854775808 ≤ r) with h2 | h2
    · exact h2
    · exfalso
      have h3 : (9223372036854775808 : Int) * 9223372036854775808 ≤ r * r := Int.mul_le_mul h2 h2 (by omega) h.r0
      have := h.low
      omega
  have hc2 : c < 2 ^ i := by
    rw [hc, ← hpr, Int.mul_comm] at hr
    exact Int.lt_of_mul_lt_mul_left hr (by omega)
  have h4 : (c + 1) * 2 ^ (63 - i) ≤ 2 ^ i * 2 ^ (63 - i) := Int.mul_le_mul_of_nonneg_right (by omega) (by omega)
  rw [Int.add_mul, Int.one_mul, ← hc, Int.mul_comm (2 ^ i), hpr] at h4
  exact h4
theorem rooted_step {n : Int} {i : Nat} {r : Int} (h : Rooted n i r) (hi : i < 63) :
    (r + 2 ^ (62 - i)) % 2 ^ (62 - i) = 0 ∧ r % 2 ^ (62 - i + 1) = 0 ∧
    ((r + 2 ^ (62 - i)) * (r + 2 ^ (62 - i)) ≤ n → Rooted n (i + 1) (r + 2 ^ (62 - i))) ∧ (¬ (r + 2 ^ (62 - i)) * (r + 2 ^ (62 - i)) ≤ n → Rooted n (i + 1) r) := by
  obtain ⟨c, hc⟩ := h.dvd
  have hp := pow_pos' (62 - i)
  have e : (2 : Int) ^ (63 - i) = 2 * 2 ^ (62 - i) := by rw [show 63 - i = 62 - i + 1 by omega, Int.pow_succ, Int.mul_comm]
  have hr0 := h.r0
  have htop := h.top
  have hlow := h.low
  rw [e] at hc htop
  have e2 : 63 - (i + 1) = 62 - i := by omega
  have hm : r = 2 * c * 2 ^ (62 - i) := by rw [hc, Int.mul_comm 2 c, Int.mul_assoc]
  refine ⟨?_, ?_, fun h1 => ⟨by omega, ⟨2 * c + 1, ?_⟩, h1, ?_⟩, fun h1 => ⟨hr0, ⟨2 * c, ?_⟩, hlow, ?_⟩⟩
  · have h9 : 2 * c * 2 ^ (62 - i) + 2 ^ (62 - i) = (2 * c + 1) * 2 ^ (62 - i) := by rw [Int.add_mul, Int.one_mul]
    rw [hm, h9, Int.mul_emod_left]
  · rw [Int.pow_succ, hc, Int.mul_comm (2 ^ (62 - i)) 2, Int.mul_emod_left]
  · rw [e2, Int.add_mul, Int.one_mul, ← hm]
  · rw [e2, Int.add_assoc, show (2 : Int) ^ (62 - i) + 2 ^ (62 - i) = 2 * 2 ^ (62 - i) by omega]; exact htop
  · rw [e2]; exact hm
  · rw [e2]; omega
theorem rooted_end {n r : Int} (h : Rooted n 63 r) : isRoot n r := ⟨h.r0, h.low, by have := h.top; simpa using this⟩

theorem root_unique {n r s : Int} (h1 : isRoot n r) (h2 : isRoot n s) : r = s := by
  obtain ⟨a0, a1, a2⟩ := h1
  obtain ⟨b0, b1, b2⟩ := h2
  rcases Int.lt_trichotomy r s with h | h | h
  · have : (r + 1) * (r + 1) ≤ s * s := Int.mul_le_mul (by omega) (by omega) (by omega) b0
    omega
  · exact h
  · have : (s + 1) * (s + 1) ≤ r * r := Int.mul_le_mul (by omega) (by omega) (by omega) a0
    omega
theorem root_exists (n : Int) (h0 : 0 ≤ n) (h1 : n < 85070591730234615865843651857942052864) : ∃ r, isRoot n r ∧ r < 9223372036854775808 := by
  have key : ∀ i : Nat, i ≤ 63 → ∃ r, Rooted n i r := by
    intro i
    induction i with
    | zero => exact fun _ => ⟨0, rooted_start n h0 h1⟩
    | succ i ih =>
      intro hi
      obtain ⟨r, hr⟩ := ih (by omega)
      obtain ⟨_, _, s1, s2⟩ := rooted_step hr (by omega)
      by_cases h : (r + 2 ^ (62 - i)) * (r + 2 ^ (62 - i)) ≤ n
      · exact ⟨_, s1 h⟩
      · exact ⟨_, s2 h⟩
  obtain ⟨r, hr⟩ := key 63 (by omega)
  have := rooted_lt hr (by omega) h1
  exact ⟨r, rooted_end hr, by simp at this; omega⟩

theorem root_words {n : Int} (h : In192 n) (h0 : 0 ≤ n) : (n < 85070591730234615865843651857942052864 → q2 n = 0 ∧ q1 n < 4611686018427387904 ∧ wrap64 (q1 n) = hi n ∧ q0 n = lo n) ∧
    (¬ n < 85070591730234615865843651857942052864 → q2 n = 0 → 4611686018427387904 ≤ q1 n) := by
  have h1 := q1_u n
  have hs := q_sum n
  have e2 : q2 n = tp n % 18446744073709551616 := rfl
  have ht := tp_in h
  have h3 := q0_u n
  unfold U64 at h1 h3; unfold In64 at ht
  refine ⟨fun h2 => ⟨by omega, by omega, ?_, rfl⟩, fun h2 h4 => by omega⟩
  have e3 : hi n = tp n * 18446744073709551616 + q1 n := by unfold hi tp q1; omega
  unfold wrap64; omega

theorem try_word {n : Int} {i : Nat} {r : Int} (h : Rooted n i r) (hi : i < 63) (h1 : n < 85070591730234615865843651857942052864) :
    bits .or .i64 r (2 ^ (62 - i)) = r + 2 ^ (62 - i) ∧ r + 2 ^ (62 - i) < 9223372036854775808 ∧ (2 : Int) ^ (62 - i) < 9223372036854775808 := by
  have hp := pow_pos' (62 - i)
  have hl := rooted_lt h (by omega) h1
  have e : (2 : Int) ^ (63 - i) = 2 * 2 ^ (62 - i) := by rw [show 63 - i = 62 - i + 1 by omega, Int.pow_succ, Int.mul_comm]
  have e' : (2 : Int) ^ (62 - i + 1) = 2 * 2 ^ (62 - i) := by rw [Int.pow_succ, Int.mul_comm]
  obtain ⟨_, s0, _, _⟩ := rooted_step h hi
  have h0 := h.r0
  refine ⟨?_, by omega, by omega⟩
  rw [or_i64 r _ (62 - i + 1) (by omega) s0 (by omega) (by omega)]
  unfold wrap64; omega

end Go.Proofs.Ytfpeekdjdapcdaa
