import Derived.Test.YtikjomekhnkgcaaQN
import Derived.Test.YtikjomekhnkgcaaMA
/- Numbers as six digits to the base 2^32: plain arithmetic, no program. -/
namespace Go.Proofs.Ytikjomekhnkgcaa
open Go.RowKit

def dg (i : Nat) (x : Int) : Int := x / 2 ^ (32 * i) % 4294967296
theorem dg_in (i : Nat) (x : Int) : 0 ≤ dg i x ∧ dg i x < 4294967296 := by unfold dg; omega
theorem pw_pos (k : Nat) : (0 : Int) < 2 ^ k := Int.pow_pos (by omega)
theorem pw_succ (k : Nat) : (2 : Int) ^ (32 * (k + 1)) = 2 ^ (32 * k) * 4294967296 := by
  rw [show 32 * (k + 1) = 32 * k + 32 by omega, Int.pow_add]; rfl
theorem up_div (a : Int) (k : Nat) : a / 2 ^ (32 * (k + 1)) = a / 2 ^ (32 * k) / 4294967296 := by
  rw [pw_succ, ← Int.ediv_ediv_of_nonneg (by have := pw_pos (32 * k); omega)]
theorem up_mod (a : Int) (k : Nat) : a % 2 ^ (32 * (k + 1)) = 2 ^ (32 * k) * dg k a + a % 2 ^ (32 * k) := by
  have hp := pw_pos (32 * k)
  have h1 := Int.mul_ediv_add_emod a (2 ^ (32 * k))
  have h2 := Int.mul_ediv_add_emod a (2 ^ (32 * (k + 1)))
  rw [up_div, pw_succ] at h2
  rw [pw_succ]
  unfold dg
  have h3 := Int.mul_ediv_add_emod (a / 2 ^ (32 * k)) 4294967296
  generalize hM : (2 : Int) ^ (32 * k) = M at *
  generalize a / M / 4294967296 = t at *
  generalize a / M % 4294967296 = d at *
  have e : M * (a / M) = M * 4294967296 * t + M * d := by rw [← h3, Int.mul_add, Int.mul_assoc]
  omega
/-- What is carried into the digit k of a sum. -/
def cyI (k : Nat) (a b : Int) : Int := (a % 2 ^ (32 * k) + b % 2 ^ (32 * k)) / 2 ^ (32 * k)
theorem cy_zero (a b : Int) : cyI 0 a b = 0 := by unfold cyI; simp
theorem cy_in (k : Nat) (a b : Int) : 0 ≤ cyI k a b ∧ cyI k a b ≤ 1 := by
  have hp := pw_pos (32 * k)
  unfold cyI
  have h1 := Int.emod_nonneg a (show (2 : Int) ^ (32 * k) ≠ 0 by omega)
  have h2 := Int.emod_nonneg b (show (2 : Int) ^ (32 * k) ≠ 0 by omega)
  have h3 := Int.emod_lt_of_pos a hp
  have h4 := Int.emod_lt_of_pos b hp
  generalize (2 : Int) ^ (32 * k) = M at *
  refine ⟨Int.ediv_nonneg (by omega) (by omega), ?_⟩
  have : (a % M + b % M) / M < 2 := by rw [Int.ediv_lt_iff_lt_mul hp]; omega
  omega
theorem plus_step (k : Nat) (a b : Int) : (dg k a + dg k b + cyI k a b) % 4294967296 = dg k (a + b) ∧ (dg k a + dg k b + cyI k a b) / 4294967296 = cyI (k + 1) a b := by
  have hp := pw_pos (32 * k)
  have e1 : (a + b) / 2 ^ (32 * k) = a / 2 ^ (32 * k) + b / 2 ^ (32 * k) + cyI k a b := by
    unfold cyI
    have h1 := Int.mul_ediv_add_emod a (2 ^ (32 * k))
    have h2 := Int.mul_ediv_add_emod b (2 ^ (32 * k))
    generalize (2 : Int) ^ (32 * k) = M at *
    have e : a + b = (a % M + b % M) + M * (a / M + b / M) := by rw [Int.mul_add]; omega
    rw [show (a + b) / M = ((a % M + b % M) + M * (a / M + b / M)) / M by rw [← e], Int.add_mul_ediv_left _ _ (by omega)]
    omega
  constructor
  · unfold dg
    rw [e1]
    generalize a / 2 ^ (32 * k) = p
    generalize b / 2 ^ (32 * k) = q
    omega
  · have e2 : cyI (k + 1) a b = (dg k a + dg k b + cyI k a b) / 4294967296 := by
      rw [show cyI (k + 1) a b = (a % 2 ^ (32 * (k + 1)) + b % 2 ^ (32 * (k + 1))) / 2 ^ (32 * (k + 1)) from rfl, up_mod, up_mod, up_div]
      unfold cyI
      generalize (2 : Int) ^ (32 * k) = M at *
      rw [show M * dg k a + a % M + (M * dg k b + b % M) = (a % M + b % M) + M * (dg k a + dg k b) by rw [Int.mul_add]; omega, Int.add_mul_ediv_left _ _ (by omega)]
      congr 1
      omega
    exact e2.symm
/-- What is borrowed from the digit k of a difference. -/
def bwI (k : Nat) (a b : Int) : Int := if a % 2 ^ (32 * k) < b % 2 ^ (32 * k) then 1 else 0
theorem bw_zero (a b : Int) : bwI 0 a b = 0 := by unfold bwI; simp
theorem bw_in (k : Nat) (a b : Int) : 0 ≤ bwI k a b ∧ bwI k a b ≤ 1 := by unfold bwI; split <;> omega
theorem minus_step (k : Nat) (a b : Int) : (dg k a + 4294967296 - dg k b - bwI k a b) % 4294967296 = dg k (a - b) ∧ 1 - (dg k a + 4294967296 - dg k b - bwI k a b) / 4294967296 = bwI (k + 1) a b := by
  have hp := pw_pos (32 * k)
  have d1 := dg_in k a
  have d2 := dg_in k b
  have r1 := Int.emod_nonneg a (show (2 : Int) ^ (32 * k) ≠ 0 by omega)
  have r2 := Int.emod_nonneg b (show (2 : Int) ^ (32 * k) ≠ 0 by omega)
  have r3 := Int.emod_lt_of_pos a hp
  have r4 := Int.emod_lt_of_pos b hp
  have e1 : (a - b) / 2 ^ (32 * k) = a / 2 ^ (32 * k) - b / 2 ^ (32 * k) - bwI k a b := by
    unfold bwI
    have h1 := Int.mul_ediv_add_emod a (2 ^ (32 * k))
    have h2 := Int.mul_ediv_add_emod b (2 ^ (32 * k))
    generalize (2 : Int) ^ (32 * k) = M at *
    have e : a - b = (a % M - b % M) + M * (a / M - b / M) := by rw [Int.mul_sub]; omega
    rw [show (a - b) / M = ((a % M - b % M) + M * (a / M - b / M)) / M by rw [← e], Int.add_mul_ediv_left _ _ (by omega)]
    split
    · have : (a % M - b % M) / M = -1 := by
        rw [show a % M - b % M = (a % M - b % M + M) + M * (-1) by omega, Int.add_mul_ediv_left _ _ (by omega), Int.ediv_eq_zero_of_lt (by omega) (by omega)]; rfl
      omega
    · rw [Int.ediv_eq_zero_of_lt (by omega) (by omega)]; omega
  constructor
  · have hb := bw_in k a b
    unfold dg at *
    rw [e1]
    generalize a / 2 ^ (32 * k) = p at *
    generalize b / 2 ^ (32 * k) = q at *
    omega
  · rw [show bwI (k + 1) a b = if a % 2 ^ (32 * (k + 1)) < b % 2 ^ (32 * (k + 1)) then 1 else 0 from rfl, up_mod, up_mod]
    unfold bwI
    generalize (2 : Int) ^ (32 * k) = M at *
    generalize dg k a = x at *
    generalize dg k b = y at *
    have hc : M * x + a % M < M * y + b % M ↔ x < y ∨ x = y ∧ a % M < b % M := by
      rcases Int.lt_trichotomy x y with h | h | h
      · have : M * (x + 1) ≤ M * y := Int.mul_le_mul_of_nonneg_left (by omega) (by omega)
        rw [Int.mul_add] at this
        omega
      · subst h; omega
      · have : M * (y + 1) ≤ M * x := Int.mul_le_mul_of_nonneg_left (by omega) (by omega)
        rw [Int.mul_add] at this
        omega
    by_cases h1 : a % M < b % M
    · rw [if_pos h1]
      by_cases h2 : x ≤ y
      · rw [if_pos (by rw [hc]; omega)]; omega
      · rw [if_neg (by rw [hc]; omega)]; omega
    · rw [if_neg h1]
      by_cases h2 : x < y
      · rw [if_pos (by rw [hc]; omega)]; omega
      · rw [if_neg (by rw [hc]; omega)]; omega
/-- The number's bit below the digit k + 1. -/
def hcI (k : Nat) (x : Int) : Int := x / 2 ^ (32 * k) % 2
theorem hc_in (k : Nat) (x : Int) : 0 ≤ hcI k x ∧ hcI k x ≤ 1 := by unfold hcI; omega
theorem half_step (k : Nat) (x : Int) : (hcI (k + 1) x * 4294967296 + dg k x) / 2 = dg k (x / 2) ∧ (hcI (k + 1) x * 4294967296 + dg k x) % 2 = hcI k x := by
  have e : x / 2 / 2 ^ (32 * k) = x / 2 ^ (32 * k) / 2 := by
    rw [Int.ediv_ediv_of_nonneg (by omega), Int.mul_comm, ← Int.ediv_ediv_of_nonneg (by have := pw_pos (32 * k); omega)]
  unfold hcI dg
  rw [e, up_div]
  generalize x / 2 ^ (32 * k) = y
  omega
theorem less_eq (k : Nat) (a b : Int) (h : a / 2 ^ (32 * (k + 1)) = b / 2 ^ (32 * (k + 1))) (hd : dg k a = dg k b) : a / 2 ^ (32 * k) = b / 2 ^ (32 * k) := by
  rw [up_div, up_div] at h
  unfold dg at hd
  omega
theorem less_ne (k : Nat) (a b : Int) (h : a / 2 ^ (32 * (k + 1)) = b / 2 ^ (32 * (k + 1))) (hd : dg k a ≠ dg k b) : decide (dg k a < dg k b) = decide (a < b) := by
  rw [up_div, up_div] at h
  unfold dg at *
  have hp := pw_pos (32 * k)
  rw [decide_eq_decide]
  have key : ∀ x y : Int, x / 2 ^ (32 * k) < y / 2 ^ (32 * k) → x < y := by
    intro x y hlt
    by_cases h : x < y
    · exact h
    · have := Int.ediv_le_ediv hp (show y ≤ x by omega); omega
  have k1 := key a b
  have k2 := key b a
  generalize a / 2 ^ (32 * k) = p at *
  generalize b / 2 ^ (32 * k) = q at *
  omega
/-- The numbers that six digits hold. -/
def BIG (x : Int) : Prop := 0 ≤ x ∧ x < 6277101735386680763835789423207666416102355444464034512896
theorem big_top {x : Int} (h : BIG x) : x / 2 ^ (32 * 6) = 0 := by
  unfold BIG at h
  exact Int.ediv_eq_zero_of_lt h.1 (by simpa using h.2)
theorem big_digits {x : Int} (h : BIG x) : x = dg 0 x + dg 1 x * 4294967296 + dg 2 x * 18446744073709551616 + dg 3 x * 79228162514264337593543950336 + dg 4 x * 340282366920938463463374607431768211456 + dg 5 x * 1461501637330902918203684832716283019655932542976 := by
  unfold BIG at h
  unfold dg
  simp only [Nat.mul_zero, Nat.reduceMul, Int.reducePow]
  omega
theorem dg_one (a : Int) (h0 : 0 ≤ a) (h1 : a < 18446744073709551616) : dg 0 a = a % 4294967296 ∧ dg 1 a = a / 4294967296 ∧ dg 2 a = 0 ∧ dg 3 a = 0 ∧ dg 4 a = 0 ∧ dg 5 a = 0 := by
  unfold dg
  simp only [Nat.mul_zero, Nat.reduceMul, Int.reducePow]
  omega
theorem dg_one1 (a : Int) (h0 : 0 ≤ a) (h1 : a < 18446744073709551616) : dg 0 (a * 4294967296) = 0 ∧ dg 1 (a * 4294967296) = a % 4294967296 ∧ dg 2 (a * 4294967296) = a / 4294967296 ∧ dg 3 (a * 4294967296) = 0 ∧ dg 4 (a * 4294967296) = 0 ∧ dg 5 (a * 4294967296) = 0 := by
  unfold dg
  simp only [Nat.mul_zero, Nat.reduceMul, Int.reducePow]
  omega
theorem dg_one2 (a : Int) (h0 : 0 ≤ a) (h1 : a < 18446744073709551616) : dg 0 (a * 18446744073709551616) = 0 ∧ dg 1 (a * 18446744073709551616) = 0 ∧ dg 2 (a * 18446744073709551616) = a % 4294967296 ∧ dg 3 (a * 18446744073709551616) = a / 4294967296 ∧ dg 4 (a * 18446744073709551616) = 0 ∧ dg 5 (a * 18446744073709551616) = 0 := by
  unfold dg
  simp only [Nat.mul_zero, Nat.reduceMul, Int.reducePow]
  omega
theorem dg_zero (i : Nat) : dg i 0 = 0 := by unfold dg; simp
/-- What is above 0, and what is below, as a size. -/
def posP (x : Int) : Int := if x < 0 then 0 else x
def negP (x : Int) : Int := if x < 0 then -x else 0
theorem pos_neg (x : Int) : posP x - negP x = x ∧ 0 ≤ posP x ∧ 0 ≤ negP x := by unfold posP negP; split <;> omega
theorem prod_parts (a b : Int) : a % 4294967296 * (b % 4294967296) + a / 4294967296 * (b % 4294967296) * 4294967296 + a % 4294967296 * (b / 4294967296) * 4294967296 + a / 4294967296 * (b / 4294967296) * 18446744073709551616 = a * b := by
  have h1 := Int.mul_ediv_add_emod a 4294967296
  have h2 := Int.mul_ediv_add_emod b 4294967296
  generalize a / 4294967296 = p at *
  generalize a % 4294967296 = q at *
  generalize b / 4294967296 = r at *
  generalize b % 4294967296 = s at *
  subst h1 h2
  rw [Int.add_mul, Int.mul_add, Int.mul_add]
  have e1 : 4294967296 * p * (4294967296 * r) = p * r * 18446744073709551616 := by
    rw [Int.mul_assoc, Int.mul_left_comm p, ← Int.mul_assoc, Int.mul_comm _ (p * r)]; rfl
  have e2 : 4294967296 * p * s = p * s * 4294967296 := by rw [Int.mul_assoc, Int.mul_comm]
  have e3 : q * (4294967296 * r) = q * r * 4294967296 := by rw [Int.mul_left_comm, Int.mul_comm]
  omega
theorem mul32 {x y : Int} (hx : 0 ≤ x) (hx1 : x < 4294967296) (hy : 0 ≤ y) (hy1 : y < 4294967296) : 0 ≤ x * y ∧ x * y < 18446744073709551616 := by
  have h1 := Int.mul_nonneg hx hy
  have h2 : x * y ≤ 4294967295 * 4294967295 := Int.mul_le_mul (by omega) (by omega) hy (by omega)
  omega
end Go.Proofs.Ytikjomekhnkgcaa
