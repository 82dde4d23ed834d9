import Derived.Test.YtikjomekhnkgcaaG7
/- Long division, bit by bit: the numbers. -/
namespace Go.Proofs.Ytikjomekhnkgcaa
open Go.RowKit

theorem div_half (s : Int) (t : Nat) : s / 2 ^ t = s / 2 ^ (t + 1) * 2 + s / 2 ^ t % 2 := by
  have : s / 2 ^ (t + 1) = s / 2 ^ t / 2 := by rw [Int.pow_succ, Int.ediv_ediv_of_nonneg (by have := pw_pos t; omega)]
  omega
/-- The quotient of s by d, of 32 * i + k bits: the digit i's bits from k on. -/
def qdI (s d : Int) (i k : Nat) : Int := s / d / 2 ^ (32 * i + k) % 2 ^ (32 - k)
def rsQ (s d : Int) (i k : Nat) : Int := s / 2 ^ (32 * i + k) % d
theorem mod_two (a c M : Int) (hM : 0 < M) (hc : c = 0 ∨ c = 1) : (a * 2 + c) % (M * 2) = a % M * 2 + c := by
  have h1 := Int.mul_ediv_add_emod a M
  have h2 := Int.emod_nonneg a (show M ≠ 0 by omega)
  have h3 := Int.emod_lt_of_pos a hM
  have e : a * 2 + c = (a % M * 2 + c) + (M * 2) * (a / M) := by
    have : (M * 2) * (a / M) = M * (a / M) * 2 := by rw [Int.mul_right_comm]
    omega
  rw [e, Int.add_mul_emod_self_left, Int.emod_eq_of_lt (by omega) (by omega)]
theorem div_comm (s d : Int) (t : Nat) (hd : 0 < d) : s / d / 2 ^ t = s / 2 ^ t / d := by
  have := pw_pos t
  rw [Int.ediv_ediv_of_nonneg (by omega), Int.ediv_ediv_of_nonneg (by omega), Int.mul_comm]
theorem dg_bit (s : Int) (i k : Nat) (hk : k < 32) : dg i s / 2 ^ k % 2 = s / 2 ^ (32 * i + k) % 2 := by
  unfold dg
  have h1 := pw_pos (32 * i)
  have h2 := pw_pos k
  rw [show 32 * i + k = 32 * i + k by rfl, Int.pow_add, ← Int.ediv_ediv_of_nonneg (by omega)]
  generalize s / 2 ^ (32 * i) = y
  have h3 := pw_pos (31 - k)
  have e : (4294967296 : Int) = 2 ^ k * (2 * 2 ^ (31 - k)) := by
    rw [← Int.mul_assoc, ← Int.pow_succ, ← Int.pow_add, show k + 1 + (31 - k) = 32 by omega]; rfl
  have h4 := Int.mul_ediv_add_emod y 4294967296
  have h5 : y / 2 ^ k = y % 4294967296 / 2 ^ k + (2 * 2 ^ (31 - k)) * (y / 4294967296) := by
    have e5 : y = y % 4294967296 + 2 ^ k * ((2 * 2 ^ (31 - k)) * (y / 4294967296)) := by rw [← Int.mul_assoc, ← e]; omega
    conv => lhs; rw [e5]
    rw [Int.add_mul_ediv_left _ _ (by omega)]
  rw [h5, Int.mul_assoc]
  omega
theorem quo_step (s d : Int) (i k : Nat) (hd : 0 < d) (hk : k < 32) :
    0 ≤ rsQ s d i (k + 1) ∧ rsQ s d i (k + 1) < d ∧ 0 ≤ qdI s d i (k + 1) ∧ qdI s d i (k + 1) < 2147483648 ∧ (dg i s / 2 ^ k % 2 = 0 ∨ dg i s / 2 ^ k % 2 = 1) ∧
    (¬ d ≤ 2 * rsQ s d i (k + 1) + dg i s / 2 ^ k % 2 → 2 * rsQ s d i (k + 1) + dg i s / 2 ^ k % 2 = rsQ s d i k ∧ 2 * qdI s d i (k + 1) = qdI s d i k) ∧
    (d ≤ 2 * rsQ s d i (k + 1) + dg i s / 2 ^ k % 2 → 2 * rsQ s d i (k + 1) + dg i s / 2 ^ k % 2 - d = rsQ s d i k ∧ 2 * qdI s d i (k + 1) + 1 = qdI s d i k) := by
  rw [dg_bit s i k hk]
  unfold rsQ qdI
  rw [div_comm _ _ _ hd, div_comm _ _ _ hd, show 32 * i + (k + 1) = 32 * i + k + 1 by omega]
  generalize 32 * i + k = t
  have e1 := div_half s t
  have b01 : s / 2 ^ t % 2 = 0 ∨ s / 2 ^ t % 2 = 1 := by omega
  generalize s / 2 ^ t % 2 = b at *
  generalize s / 2 ^ (t + 1) = y at *
  have h1 := Int.mul_ediv_add_emod y d
  have h2 := Int.emod_nonneg y (show d ≠ 0 by omega)
  have h3 := Int.emod_lt_of_pos y hd
  have hp := pw_pos (32 - (k + 1))
  have hp2 : (2 : Int) ^ (32 - k) = 2 ^ (32 - (k + 1)) * 2 := by rw [show 32 - k = 32 - (k + 1) + 1 by omega, Int.pow_succ]
  have hp3 : (2 : Int) ^ (32 - (k + 1)) ≤ 2147483648 := by
    have : (2 : Int) ^ (32 - (k + 1)) * 2 ^ k = 2147483648 := by rw [← Int.pow_add, show 32 - (k + 1) + k = 31 by omega]; rfl
    have h9 := pw_pos k
    have := Int.mul_le_mul_of_nonneg_left (show 1 ≤ (2 : Int) ^ k by omega) (show 0 ≤ (2 : Int) ^ (32 - (k + 1)) by omega)
    omega
  have h4 := Int.emod_nonneg (y / d) (show (2 : Int) ^ (32 - (k + 1)) ≠ 0 by omega)
  have h5 := Int.emod_lt_of_pos (y / d) hp
  refine ⟨h2, h3, h4, by omega, b01, fun h => ?_, fun h => ?_⟩
  · have e2 : s / 2 ^ t = (2 * (y % d) + b) + d * (2 * (y / d)) := by rw [← Int.mul_assoc, Int.mul_comm d 2, Int.mul_assoc]; omega
    rw [e2, Int.add_mul_emod_self_left, Int.emod_eq_of_lt (a := 2 * (y % d) + b) (b := d) (by omega) (by omega), Int.add_mul_ediv_left _ _ (by omega), Int.ediv_eq_zero_of_lt (a := 2 * (y % d) + b) (b := d) (by omega) (by omega), hp2]
    have := mod_two (y / d) 0 _ hp (.inl rfl)
    refine ⟨rfl, ?_⟩
    rw [show 0 + 2 * (y / d) = y / d * 2 + 0 by omega, this]; omega
  · have e2 : s / 2 ^ t = (2 * (y % d) + b - d) + d * (2 * (y / d) + 1) := by
      rw [Int.mul_add, ← Int.mul_assoc, Int.mul_comm d 2, Int.mul_assoc]; omega
    rw [e2, Int.add_mul_emod_self_left, Int.emod_eq_of_lt (a := 2 * (y % d) + b - d) (b := d) (by omega) (by omega), Int.add_mul_ediv_left _ _ (by omega), Int.ediv_eq_zero_of_lt (a := 2 * (y % d) + b - d) (b := d) (by omega) (by omega), hp2]
    have := mod_two (y / d) 1 _ hp (.inr rfl)
    refine ⟨rfl, ?_⟩
    rw [show 0 + (2 * (y / d) + 1) = y / d * 2 + 1 by omega, this]; omega
theorem quo_begin (s d : Int) (i : Nat) : qdI s d i 32 = 0 ∧ rsQ s d i 32 = rsQ s d (i + 1) 0 := by
  unfold qdI rsQ
  exact ⟨by simp, by rw [show 32 * (i + 1) + 0 = 32 * i + 32 by omega]⟩
theorem quo_done (s d : Int) (i : Nat) : qdI s d i 0 = dg i (s / d) := rfl
theorem quo_top {s d : Int} (h : BIG s) : rsQ s d 6 0 = 0 := by
  unfold rsQ
  rw [show 32 * 6 + 0 = 32 * 6 by rfl, big_top h]; simp
theorem quo_last (s d : Int) : rsQ s d 0 0 = s % d := by unfold rsQ; simp
/-- The row at digit i. -/
def dnV (i : Nat) (v x : Int) : Array Value := (dnL (i + 1) x).setIfInBounds i (.int .u64 v)
theorem dnV_zero (i : Nat) (x : Int) (h : i < 6) : dnV i 0 x = dnL (i + 1) x := by
  unfold dnV
  have h6 : i = 0 ∨ i = 1 ∨ i = 2 ∨ i = 3 ∨ i = 4 ∨ i = 5 := by omega
  rcases h6 with rfl | rfl | rfl | rfl | rfl | rfl <;> rfl
theorem dnV_full (i : Nat) (x : Int) (h : i < 6) : dnV i (dg i x) x = dnL i x := dnL_set i x h
theorem dnV_size (i : Nat) (v x : Int) : (dnV i v x).size = 6 := by simp [dnV, dnL_size]
theorem dnV_set (i : Nat) (v u x : Int) : (dnV i v x).setIfInBounds i (.int .u64 u) = dnV i u x := by simp [dnV]
theorem dnV_get (i : Nat) (v x : Int) (h : i < 6) : (dnV i v x)[i]? = some (.int .u64 v) := by
  unfold dnV
  rw [Array.getElem?_setIfInBounds_self_of_lt]
  rw [dnL_size]; exact h
end Go.Proofs.Ytikjomekhnkgcaa
