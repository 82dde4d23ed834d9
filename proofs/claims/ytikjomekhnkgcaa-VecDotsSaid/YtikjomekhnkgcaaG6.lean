import Derived.Test.YtikjomekhnkgcaaG5
/- The reference's sums: Round. -/
namespace Go.Proofs.Ytikjomekhnkgcaa
open Go.RowKit
attribute [local go_sem ↓] Go.wp_at_zero Go.wp_at_succ

theorem rnd_neg (x d : Int) (hd : 0 < d) : rnd (-x) d = -rnd x d := by
  have h1 := Int.mul_ediv_add_emod x d
  have h2 := Int.emod_nonneg x (show d ≠ 0 by omega)
  have h3 := Int.emod_lt_of_pos x hd
  by_cases h0 : x % d = 0
  · have e : -x = d * -(x / d) := by rw [Int.mul_neg]; omega
    have e1 : (-x) / d = -(x / d) := by rw [e, Int.mul_ediv_cancel_left _ (by omega)]
    have e2 : (-x) % d = 0 := by rw [e, Int.mul_emod_right]
    unfold rnd
    rw [e1, e2, h0, if_neg (by omega), if_neg (by omega)]
  · have e : -x = (d - x % d) + d * (-(x / d) - 1) := by rw [Int.mul_sub, Int.mul_neg]; omega
    have e1 : (-x) / d = -(x / d) - 1 := by rw [e, Int.add_mul_ediv_left _ _ (by omega), Int.ediv_eq_zero_of_lt (by omega) (by omega)]; omega
    have e2 : (-x) % d = d - x % d := by rw [e, Int.add_mul_emod_self_left, Int.emod_eq_of_lt (by omega) (by omega)]
    unfold rnd
    rw [e1, e2]
    generalize x / d = q at *
    generalize x % d = r at *
    by_cases c1 : d < 2 * r
    · rw [if_neg (by omega), if_pos (by omega)]; omega
    · by_cases c2 : 2 * r = d
      · by_cases c3 : q % 2 = 1
        · rw [if_neg (by omega), if_pos (by omega)]; omega
        · rw [if_pos (by omega), if_neg (by omega)]; omega
      · rw [if_pos (by omega), if_neg (by omega)]; omega
theorem rnd_sgn (x d : Int) (hd : 0 < d) : sgn (decide (x < 0)) (rnd (absI x) d) = rnd x d := by
  rcases absI_cases x with ⟨s, es⟩ | ⟨s, es⟩
  · rw [decide_eq_true s, es, rnd_neg _ _ hd]; show -(-rnd x d) = _; omega
  · rw [decide_eq_false (by omega), es]; rfl
/-- The last bit that fell, and whether one below it was set, when a number was halved j times. -/
def lsI (m : Int) (j : Nat) : Int := if j = 0 then 0 else m / 2 ^ (j - 1) % 2
def rsI (m : Int) (j : Nat) : Int := if j = 0 then 0 else if m % 2 ^ (j - 1) = 0 then 0 else 1
theorem ls_01 (m : Int) (j : Nat) : lsI m j = 0 ∨ lsI m j = 1 := by unfold lsI; split <;> omega
theorem rs_01 (m : Int) (j : Nat) : rsI m j = 0 ∨ rsI m j = 1 := by 
  unfold rsI
  by_cases h : j = 0
  · rw [if_pos h]; omega
  · rw [if_neg h]
    by_cases h2 : m % 2 ^ (j - 1) = 0
    · rw [if_pos h2]; omega
    · rw [if_neg h2]; omega
theorem ls_succ (m : Int) (j : Nat) : lsI m (j + 1) = m / 2 ^ j % 2 := rfl
theorem mod_pow_succ (m : Int) (j : Nat) : m % 2 ^ (j + 1) = 2 ^ j * (m / 2 ^ j % 2) + m % 2 ^ j := by
  have hp := pw_pos j
  have h1 := Int.mul_ediv_add_emod m (2 ^ j)
  have h3 := Int.mul_ediv_add_emod (m / 2 ^ j) 2
  have h4 := Int.emod_nonneg m (show (2 : Int) ^ j ≠ 0 by omega)
  have h5 := Int.emod_lt_of_pos m hp
  rw [Int.pow_succ]
  generalize (2 : Int) ^ j = M at *
  generalize hd : m / M % 2 = d at *
  generalize m / M / 2 = t at *
  have e : m = (M * d + m % M) + M * 2 * t := by
    have : M * (m / M) = M * (2 * t) + M * d := by rw [← h3, Int.mul_add]
    rw [← Int.mul_assoc] at this
    omega
  have hd2 : d = 0 ∨ d = 1 := by omega
  rw [show m % (M * 2) = ((M * d + m % M) + M * 2 * t) % (M * 2) by rw [← e], Int.add_mul_emod_self_left]
  rcases hd2 with rfl | rfl
  · rw [Int.mul_zero, Int.zero_add]; exact Int.emod_eq_of_lt h4 (by omega)
  · rw [Int.mul_one]; exact Int.emod_eq_of_lt (by omega) (by omega)
theorem rs_succ (m : Int) (j : Nat) : bits .or .u64 (rsI m j) (lsI m j) = rsI m (j + 1) := by
  have key : rsI m (j + 1) = if rsI m j = 1 ∨ lsI m j = 1 then 1 else 0 := by
    show (if m % 2 ^ j = 0 then 0 else 1) = _
    cases j with
    | zero => unfold rsI lsI; simp
    | succ i =>
      rw [mod_pow_succ]
      have hp := pw_pos i
      have h4 := Int.emod_nonneg m (show (2 : Int) ^ i ≠ 0 by omega)
      have e1 : lsI m (i + 1) = m / 2 ^ i % 2 := rfl
      have e2 : rsI m (i + 1) = if m % 2 ^ i = 0 then 0 else 1 := rfl
      rw [e1, e2]
      have hd : m / 2 ^ i % 2 = 0 ∨ m / 2 ^ i % 2 = 1 := by omega
      generalize m / 2 ^ i % 2 = d at *
      generalize m % 2 ^ i = r at *
      generalize (2 : Int) ^ i = M at *
      rcases hd with rfl | rfl
      · rw [Int.mul_zero, Int.zero_add]
        by_cases hr : r = 0
        · rw [if_pos hr, if_neg (by omega)]
        · rw [if_neg hr, if_pos (by omega)]
      · rw [Int.mul_one, if_neg (by omega), if_pos (.inr rfl)]
  rw [key]
  rcases rs_01 m j with h | h <;> rcases ls_01 m j with h' | h' <;> rw [h, h'] <;> decide
theorem rnd_bits (m : Int) (j : Nat) : rnd m (2 ^ (j + 1)) = if lsI m (j + 1) = 1 ∧ (rsI m (j + 1) = 1 ∨ m / 2 ^ (j + 1) % 2 = 1) then m / 2 ^ (j + 1) + 1 else m / 2 ^ (j + 1) := by
  unfold rnd
  have e3 : (2 : Int) ^ (j + 1) = 2 ^ j * 2 := Int.pow_succ ..
  have e4 := mod_pow_succ m j
  have hp := pw_pos j
  have h4 := Int.emod_nonneg m (show (2 : Int) ^ j ≠ 0 by omega)
  have h5 := Int.emod_lt_of_pos m hp
  have e1 : lsI m (j + 1) = m / 2 ^ j % 2 := rfl
  have e2 : rsI m (j + 1) = if m % 2 ^ j = 0 then 0 else 1 := rfl
  rw [e1, e2]
  generalize m / 2 ^ (j + 1) = q at *
  rw [e4, e3]
  have hd : m / 2 ^ j % 2 = 0 ∨ m / 2 ^ j % 2 = 1 := by omega
  generalize m / 2 ^ j % 2 = d at *
  generalize m % 2 ^ j = r at *
  generalize (2 : Int) ^ j = M at *
  rcases hd with rfl | rfl
  · rw [if_neg (by omega), if_neg (by omega)]
  · rw [Int.mul_one]
    by_cases hr : r = 0
    · rw [if_pos hr]
      by_cases hq : q % 2 = 1
      · rw [if_pos (by omega), if_pos (by omega)]
      · rw [if_neg (by omega), if_neg (by omega)]
    · rw [if_neg hr, if_pos (by omega), if_pos (by omega)]
theorem rnd_one (m : Int) : rnd m (2 ^ 0) = m := by unfold rnd; rw [if_neg (by simp)]; simp
theorem big_div {m : Int} (h : BIG m) (j : Nat) : BIG (m / 2 ^ j) := by
  have hp := pw_pos j
  refine ⟨Int.ediv_nonneg h.1 (by omega), ?_⟩
  have := Int.ediv_le_self (2 ^ j) h.1
  have := h.2
  omega
theorem half_div (m : Int) (j : Nat) : m / 2 ^ j / 2 = m / 2 ^ (j + 1) := by rw [Int.pow_succ, Int.ediv_ediv_of_nonneg (by have := pw_pos j; omega)]
end Go.Proofs.Ytikjomekhnkgcaa
