import Derived.Test.YtikjomekhnkgcaaD6
/- The plain law of Clip: what is clipped is no longer than it may be. -/
namespace Go.Proofs.Ytikjomekhnkgcaa
open Go.RowKit

theorem rnd_nr4 (x y : Int) (hy : 0 < y) : -y ≤ 2 * (x - rnd x y * y) ∧ 2 * (x - rnd x y * y) ≤ y := by
  have h := Int.emod_add_mul_ediv x y
  have h0 := Int.emod_nonneg x (show y ≠ 0 by omega)
  have h1 := Int.emod_lt_of_pos x hy
  unfold rnd
  split
  · rw [Int.add_mul, Int.mul_comm (x / y) y]; omega
  · rw [Int.mul_comm (x / y) y]; omega
theorem rnd_up4 {x y m : Int} (hm : 0 < m) (h : x ≤ y) : rnd x m ≤ rnd y m := by
  have hq := Int.ediv_le_ediv hm h
  have e1 := Int.emod_add_mul_ediv x m
  have e2 := Int.emod_add_mul_ediv y m
  rcases Int.lt_or_le (x / m) (y / m) with h1 | h1
  · unfold rnd; split <;> split <;> omega
  · have e : x / m = y / m := by omega
    rw [e] at e1
    unfold rnd
    rw [e]
    split <;> split <;> omega
theorem rnd_whole4 (x : Int) : rnd (x * 4294967296) 4294967296 = x := by
  unfold rnd
  split <;> omega
theorem clip_pos {k x : Int} (hk : 0 ≤ k) (hk1 : k ≤ 4294967296) (hx : 0 ≤ x) : 0 ≤ rnd (k * x) 4294967296 ∧ rnd (k * x) 4294967296 ≤ x := by
  have h1 : 0 ≤ k * x := Int.mul_nonneg hk hx
  have h2 : k * x ≤ 4294967296 * x := Int.mul_le_mul_of_nonneg_right hk1 hx
  have a := rnd_up4 (m := 4294967296) (by omega) h1
  have b := rnd_up4 (m := 4294967296) (by omega) h2
  rw [Int.mul_comm 4294967296 x, rnd_whole4] at b
  have z : rnd 0 4294967296 = 0 := by unfold rnd; split <;> omega
  rw [z] at a
  exact ⟨a, b⟩
end Go.Proofs.Ytikjomekhnkgcaa
