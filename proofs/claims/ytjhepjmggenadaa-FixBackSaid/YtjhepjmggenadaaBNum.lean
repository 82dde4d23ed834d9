import Derived.Test.YtjhepjmggenadaaNum2
/- Numbers as lists of bits: plain. -/
namespace Go.Proofs.Ytjhepjmggenadaa

def bitI (k : Nat) (x : Int) : Int := x / 2 ^ k % 2
theorem bitI_01 (k : Nat) (x : Int) : 0 ≤ bitI k x ∧ bitI k x ≤ 1 := by unfold bitI; omega
theorem p2pos (k : Nat) : 0 < (2 : Int) ^ k := Int.pow_pos (by decide)
theorem p2succ (k : Nat) : (2 : Int) ^ (k + 1) = 2 * 2 ^ k := by rw [Int.pow_succ, Int.mul_comm]
theorem p2mul {k n : Nat} (h : k ≤ n) : (2 : Int) ^ n = 2 ^ k * 2 ^ (n - k) := by rw [← Int.pow_add, show k + (n - k) = n by omega]
theorem p2le {k n : Nat} (h : k ≤ n) : (2 : Int) ^ k ≤ 2 ^ n := by
  rw [p2mul h]
  have := p2pos k; have := p2pos (n - k)
  have : (2 : Int) ^ k * 1 ≤ 2 ^ k * 2 ^ (n - k) := Int.mul_le_mul_of_nonneg_left (by omega) (by omega)
  omega
theorem bit_far (k n : Nat) (x m : Int) (h : k < n) : bitI k (x + 2 ^ n * m) = bitI k x := by
  unfold bitI
  rw [p2mul (Nat.le_of_lt h), Int.mul_assoc, Int.add_mul_ediv_left _ _ (by have := p2pos k; omega)]
  rw [show n - k = (n - k - 1) + 1 by omega, p2succ, Int.mul_assoc]
  omega
theorem bit_mod (k n : Nat) (x : Int) (h : k < n) : bitI k (x % 2 ^ n) = bitI k x := by
  have := Int.mul_ediv_add_emod x (2 ^ n)
  have e : x = x % 2 ^ n + 2 ^ n * (x / 2 ^ n) := by omega
  conv => rhs; rw [e, bit_far k n _ _ h]
def InB (n : Nat) (x : Int) : Prop := -2 ^ (n - 1) ≤ x ∧ x < 2 ^ (n - 1)
theorem InB.more {n m : Nat} {x : Int} (h : InB n x) (hm : n ≤ m) : InB m x := by
  have := p2le (show n - 1 ≤ m - 1 by omega)
  unfold InB at *; omega
theorem ediv_far {k : Nat} {x : Int} (h0 : -2 ^ k ≤ x) (h1 : x < 2 ^ k) : x / 2 ^ k = if x < 0 then -1 else 0 := by
  have hp := p2pos k
  generalize (2 : Int) ^ k = P at *
  split
  · have h1 : -1 ≤ x / P := (Int.le_ediv_iff_mul_le (by omega)).2 (by omega)
    have h2 : x / P < 0 := Int.ediv_neg_of_neg_of_pos (by omega) (by omega)
    omega
  · exact Int.ediv_eq_zero_of_lt (by omega) (by omega)
theorem bit_sign {n k : Nat} {x : Int} (h : InB n x) (hk : n - 1 ≤ k) : bitI k x = if x < 0 then 1 else 0 := by
  have := p2le hk
  unfold InB at h
  unfold bitI
  rw [ediv_far (by omega) (by omega)]
  split <;> rfl
theorem bit_not (k : Nat) (x : Int) : bitI k (-1 - x) = 1 - bitI k x := by
  unfold bitI
  have hp := p2pos k
  have e : (-1 - x) / 2 ^ k = -1 - x / 2 ^ k := by
    have h1 := Int.mul_ediv_add_emod x (2 ^ k)
    have h2 := Int.emod_nonneg x (show (2 : Int) ^ k ≠ 0 by omega)
    have h3 := Int.emod_lt_of_pos x hp
    have e2 : -1 - x = (2 ^ k - 1 - x % 2 ^ k) + 2 ^ k * (-1 - x / 2 ^ k) := by rw [Int.mul_sub]; omega
    rw [e2, Int.add_mul_ediv_left _ _ (by omega), Int.ediv_eq_zero_of_lt (by omega) (by omega)]; omega
  rw [e]; omega
theorem mod_succ (x : Int) (k : Nat) : x % 2 ^ (k + 1) = x % 2 ^ k + 2 ^ k * bitI k x := by
  unfold bitI
  have hp := p2pos k
  have h1 := Int.mul_ediv_add_emod x (2 ^ k)
  have h2 := Int.emod_nonneg x (show (2 : Int) ^ k ≠ 0 by omega)
  have h3 := Int.emod_lt_of_pos x hp
  have h4 := Int.mul_ediv_add_emod (x / 2 ^ k) 2
  have e : x = (x % 2 ^ k + 2 ^ k * (x / 2 ^ k % 2)) + 2 ^ (k + 1) * (x / 2 ^ k / 2) := by
    have : 2 ^ (k + 1) * (x / 2 ^ k / 2) = 2 ^ k * (2 * (x / 2 ^ k / 2)) := by rw [p2succ, Int.mul_comm 2 (2 ^ k), Int.mul_assoc]
    rw [this, Int.add_assoc, ← Int.mul_add, show x / 2 ^ k % 2 + 2 * (x / 2 ^ k / 2) = x / 2 ^ k by omega]; omega
  have hb : 0 ≤ x / 2 ^ k % 2 ∧ x / 2 ^ k % 2 ≤ 1 := by omega
  have h5 : 0 ≤ 2 ^ k * (x / 2 ^ k % 2) := Int.mul_nonneg (by omega) hb.1
  have h6 : 2 ^ k * (x / 2 ^ k % 2) ≤ 2 ^ k * 1 := Int.mul_le_mul_of_nonneg_left hb.2 (by omega)
  have e3 := p2succ k
  conv => lhs; rw [e]
  rw [Int.add_mul_emod_self_left, Int.emod_eq_of_lt (by omega) (by omega)]
theorem add_step (x y : Int) (k : Nat) (c : Int) (hc : c = (x % 2 ^ k + y % 2 ^ k) / 2 ^ k) :
    0 ≤ c ∧ c ≤ 1 ∧ (bitI k x + bitI k y + c) % 2 = bitI k (x + y) ∧ (bitI k x + bitI k y + c) / 2 = (x % 2 ^ (k + 1) + y % 2 ^ (k + 1)) / 2 ^ (k + 1) := by
  have hp := p2pos k
  have x1 := Int.mul_ediv_add_emod x (2 ^ k)
  have x2 := Int.emod_nonneg x (show (2 : Int) ^ k ≠ 0 by omega)
  have x3 := Int.emod_lt_of_pos x hp
  have y1 := Int.mul_ediv_add_emod y (2 ^ k)
  have y2 := Int.emod_nonneg y (show (2 : Int) ^ k ≠ 0 by omega)
  have y3 := Int.emod_lt_of_pos y hp
  have hc0 : 0 ≤ c := by rw [hc]; exact Int.ediv_nonneg (by omega) (by omega)
  have hc1 : c < 2 := by rw [hc]; exact (Int.ediv_lt_iff_lt_mul hp).2 (by omega)
  have c1 := Int.mul_ediv_add_emod (x % 2 ^ k + y % 2 ^ k) (2 ^ k)
  have c2 := Int.emod_nonneg (x % 2 ^ k + y % 2 ^ k) (show (2 : Int) ^ k ≠ 0 by omega)
  have c3 := Int.emod_lt_of_pos (x % 2 ^ k + y % 2 ^ k) hp
  rw [← hc] at c1
  refine ⟨hc0, by omega, ?_, ?_⟩
  · have e : x + y = (x % 2 ^ k + y % 2 ^ k) % 2 ^ k + 2 ^ k * (x / 2 ^ k + y / 2 ^ k + c) := by rw [Int.mul_add, Int.mul_add]; omega
    unfold bitI
    conv => rhs; rw [e, Int.add_mul_ediv_left _ _ (by omega), Int.ediv_eq_zero_of_lt c2 c3]
    omega
  · have e : x % 2 ^ (k + 1) + y % 2 ^ (k + 1) = (x % 2 ^ k + y % 2 ^ k) % 2 ^ k + 2 ^ k * (bitI k x + bitI k y + c) := by
      rw [mod_succ, mod_succ, Int.mul_add, Int.mul_add]; omega
    rw [e, p2succ, Int.mul_comm 2 (2 ^ k), ← Int.ediv_ediv_of_nonneg (by omega), Int.add_mul_ediv_left _ _ (by omega), Int.ediv_eq_zero_of_lt c2 c3, Int.zero_add]
theorem bit_shl (k n : Nat) (x : Int) : bitI k (x * 2 ^ n) = if k < n then 0 else bitI (k - n) x := by
  split
  · rename_i h
    have := bit_far k n 0 x h
    rw [Int.zero_add, Int.mul_comm] at this
    rw [this]; unfold bitI; simp
  · unfold bitI
    rw [p2mul (show n ≤ k by omega), ← Int.ediv_ediv_of_nonneg (by have := p2pos n; omega), Int.mul_ediv_cancel _ (by have := p2pos n; omega)]
theorem bit_shr (k n : Nat) (x : Int) : bitI k (x / 2 ^ n) = bitI (k + n) x := by
  unfold bitI
  rw [Int.ediv_ediv_of_nonneg (by have := p2pos n; omega), ← Int.pow_add, Nat.add_comm n k]
theorem bits_mod {n : Nat} {x y : Int} (h : ∀ j, j < n → bitI j x = bitI j y) : x % 2 ^ n = y % 2 ^ n := by
  induction n with
  | zero => simp [Int.emod_one]
  | succ n ih => rw [mod_succ, mod_succ, ih fun j hj => h j (by omega), h n (by omega)]
theorem mod_bits {n : Nat} {x y : Int} (h : x % 2 ^ n = y % 2 ^ n) (j : Nat) (hj : j < n) : bitI j x = bitI j y := by
  rw [← bit_mod j n x hj, ← bit_mod j n y hj, h]
theorem mod_eq_of_add {n : Nat} {x y m : Int} (h : x = y + 2 ^ n * m) : x % 2 ^ n = y % 2 ^ n := by rw [h, Int.add_mul_emod_self_left]
/-- A number brought into n bits. -/
def wrB (n : Nat) (x : Int) : Int := (x + 2 ^ (n - 1)) % 2 ^ n - 2 ^ (n - 1)
theorem wrB_in {n : Nat} (hn : 0 < n) (x : Int) : InB n (wrB n x) := by
  have hp := p2pos n
  have e : (2 : Int) ^ n = 2 * 2 ^ (n - 1) := by rw [← p2succ, show n - 1 + 1 = n by omega]
  have h2 := Int.emod_nonneg (x + 2 ^ (n - 1)) (show (2 : Int) ^ n ≠ 0 by omega)
  have h3 := Int.emod_lt_of_pos (x + 2 ^ (n - 1)) hp
  unfold InB wrB; omega
theorem wrB_add (n : Nat) (x : Int) : wrB n x = x + 2 ^ n * -((x + 2 ^ (n - 1)) / 2 ^ n) := by
  have := Int.mul_ediv_add_emod (x + 2 ^ (n - 1)) (2 ^ n)
  unfold wrB; rw [Int.mul_neg]; omega
theorem wrB_bit (n j : Nat) (x : Int) (hj : j < n) : bitI j (wrB n x) = bitI j x := by rw [wrB_add, bit_far j n _ _ hj]
theorem wrB_id {n : Nat} (hn : 0 < n) {x : Int} (h : InB n x) : wrB n x = x := by
  have e : (2 : Int) ^ n = 2 * 2 ^ (n - 1) := by rw [← p2succ, show n - 1 + 1 = n by omega]
  unfold InB at h; unfold wrB
  rw [Int.emod_eq_of_lt (by omega) (by omega)]; omega
theorem InB_ext {n : Nat} (hn : 0 < n) {x y : Int} (hx : InB n x) (hy : InB n y) (h : ∀ j, j < n → bitI j x = bitI j y) : x = y := by
  have e := bits_mod h
  rw [← wrB_id hn hx, ← wrB_id hn hy]
  unfold wrB
  rw [Int.add_emod, e, ← Int.add_emod]
/-- The words of a list of bits: the round of the inner loop. -/
theorem word_step (x : Int) (i k : Nat) (hk : k < 64) : x / 2 ^ (i + k) % 2 ^ (64 - k) = 2 * (x / 2 ^ (i + k + 1) % 2 ^ (63 - k)) + bitI (i + k) x := by
  have hp := p2pos (63 - k)
  have e : x / 2 ^ (i + k + 1) = x / 2 ^ (i + k) / 2 := by rw [p2succ, Int.mul_comm 2, ← Int.ediv_ediv_of_nonneg (by have := p2pos (i + k); omega)]
  rw [e, show 64 - k = (63 - k) + 1 by omega]
  unfold bitI
  generalize x / 2 ^ (i + k) = z
  rw [p2succ]
  generalize (2 : Int) ^ (63 - k) = P at *
  have h1 := Int.mul_ediv_add_emod z 2
  have h2 := Int.mul_ediv_add_emod (z / 2) P
  have h3 := Int.emod_nonneg (z / 2) (show P ≠ 0 by omega)
  have h4 := Int.emod_lt_of_pos (z / 2) hp
  have e2 : z = (2 * (z / 2 % P) + z % 2) + (2 * P) * (z / 2 / P) := by rw [Int.mul_assoc]; omega
  conv => lhs; rw [e2]
  rw [Int.add_mul_emod_self_left, Int.emod_eq_of_lt (by omega) (by omega)]
end Go.Proofs.Ytjhepjmggenadaa
