import Derived.Test.YtjhepjmggenadaaMD
import Derived.Test.YtjhepjmggenadaaG7
/- Floats: the document's number and the code's, plain. -/
namespace Go.Proofs.Ytjhepjmggenadaa
open Go.RowKit

theorem rnd_small {x d : Int} (h0 : 0 ≤ x) (h : 2 * x < d) : rnd x d = 0 := by
  have e1 : x % d = x := Int.emod_eq_of_lt h0 (by omega)
  have e2 : x / d = 0 := Int.ediv_eq_zero_of_lt h0 (by omega)
  unfold rnd
  rw [e1, e2, if_neg (by omega)]
theorem pow_ge {a b : Nat} (h : a ≤ b) : (2 : Int) ^ a ≤ 2 ^ b := by
  obtain ⟨c, rfl⟩ : ∃ c, b = a + c := ⟨b - a, by omega⟩
  rw [Int.pow_add]
  have h1 := pw_pos a
  have h2 := pw_pos c
  have := Int.mul_le_mul_of_nonneg_left (show 1 ≤ (2 : Int) ^ c by omega) (show 0 ≤ (2 : Int) ^ a by omega)
  omega
theorem step_low (W p : Int) (k : Nat) (h0 : 0 ≤ W) (h1 : W < 9007199254740992) (hk : p + 32 = -(k : Int)) (hp : 0 < k) : stepI W p = rnd W (2 ^ k) ∧ 0 ≤ rnd W (2 ^ k) ∧ rnd W (2 ^ k) ≤ W + 1 := by
  obtain ⟨_, _, _, q0, q1⟩ := rnd_near W (2 ^ k) h0 (pw_pos k)
  refine ⟨?_, q0, q1⟩
  unfold stepI
  rw [if_pos (by omega), show -(p + 32) = (k : Int) by omega]
  unfold roundI
  rw [if_neg (by omega)]
  by_cases h : 127 < (k : Int)
  · rw [if_pos h, rnd_small h0]
    have := pow_ge (show 64 ≤ k by omega)
    rw [show (2 : Int) ^ 64 = 18446744073709551616 by rfl] at this
    omega
  · rw [if_neg h, show (k : Int).toNat = k by omega]
theorem sgn_sat (s : Bool) (x : Int) (h : 18446744073709551616 ≤ x) : clampI (sgn s x) = (if s then -9223372036854775808 else 9223372036854775807) ∧ overI (sgn s x) = true := by
  cases s
  · refine ⟨?_, ?_⟩
    · unfold sgn clampI; simp; rw [if_neg (by omega), if_pos (by omega)]
    · unfold sgn overI; simp; omega
  · refine ⟨?_, ?_⟩
    · have e : sgn true x = -x := rfl
      rw [e, if_pos rfl]; unfold clampI; rw [if_pos (by omega)]
    · unfold sgn overI; simp; omega
/-- What the code holds to be the steps of a number from 1 on. -/
theorem float_sgn (b : Nat) (x : Int) (h : stepI (apW b) (apP b) = x) (h0 : 0 ≤ x) (h1 : x < 85070591730234615865843651857942052864) : floatI b = sgn (apS b) x := by
  unfold floatI sgn
  rw [h]
  split
  · exact w128_id (by unfold In128; omega)
  · rfl
theorem float_low (b k : Nat) (hk : apP b + 32 = -(k : Int)) (hp : 0 < k) : floatI b = sgn (apS b) (rnd (apW b) (2 ^ k)) := by
  obtain ⟨w0, w1, _, _⟩ := ap_in b
  obtain ⟨e, e0, e1⟩ := step_low _ _ k w0 w1 hk hp
  exact float_sgn b _ e e0 (by omega)
theorem float_high (b n t : Nat) (hn : apP b + 32 = (n : Int)) (ht : t ≤ n) (hm : t = n ∨ 18446744073709551616 ≤ apW b * 2 ^ t) :
    clampI (floatI b) = clampI (sgn (apS b) (apW b * 2 ^ t)) ∧ overI (floatI b) = overI (sgn (apS b) (apW b * 2 ^ t)) := by
  obtain ⟨w0, w1, _, _⟩ := ap_in b
  have est : stepI (apW b) (apP b) = if apW b ≠ 0 ∧ 72 < (n : Int) then shlI (apW b) 72 else shlI (apW b) (n : Int) := by
    unfold stepI; rw [hn, if_neg (by omega)]
  by_cases hW : apW b = 0
  · have e0 : stepI (apW b) (apP b) = 0 := by
      rw [est, if_neg (by omega), hW]
      unfold shlI
      split
      · rfl
      · split
        · rfl
        · rw [Int.zero_mul]; exact w128_id (by unfold In128; omega)
    rw [float_sgn b 0 e0 (by omega) (by omega), hW, Int.zero_mul]
    exact ⟨rfl, rfl⟩
  · have hW1 : 1 ≤ apW b := by omega
    by_cases h72 : n ≤ 72
    · have hp := pow_ge h72
      have hp0 := pw_pos n
      rw [show (2 : Int) ^ 72 = 4722366482869645213696 by rfl] at hp
      have hb : apW b * 2 ^ n ≤ 9007199254740992 * 4722366482869645213696 := Int.mul_le_mul (by omega) hp (by omega) (by omega)
      have hb0 : 0 ≤ apW b * 2 ^ n := Int.mul_nonneg w0 (by omega)
      have e0 : stepI (apW b) (apP b) = apW b * 2 ^ n := by
        rw [est, if_neg (by omega)]
        unfold shlI
        by_cases hz : (n : Int) ≤ 0
        · obtain rfl : n = 0 := by omega
          rw [if_pos hz]; simp
        · rw [if_neg hz, if_neg (by omega), show (n : Int).toNat = n by omega]
          exact w128_id (by unfold In128; omega)
      rw [float_sgn b _ e0 hb0 (by omega)]
      rcases hm with rfl | hm
      · exact ⟨rfl, rfl⟩
      · have : apW b * 2 ^ t ≤ apW b * 2 ^ n := Int.mul_le_mul_of_nonneg_left (pow_ge ht) w0
        obtain ⟨a1, a2⟩ := sgn_sat (apS b) _ hm
        obtain ⟨b1, b2⟩ := sgn_sat (apS b) (apW b * 2 ^ n) (by omega)
        rw [a1, a2, b1, b2]; exact ⟨rfl, rfl⟩
    · have e0 : stepI (apW b) (apP b) = apW b * 4722366482869645213696 := by
        rw [est, if_pos ⟨hW, by omega⟩]
        unfold shlI
        rw [if_neg (by omega), if_neg (by omega)]
        exact w128_id (by unfold In128; simp; omega)
      rw [float_sgn b _ e0 (by omega) (by omega)]
      have hM : 18446744073709551616 ≤ apW b * 2 ^ t := by
        rcases hm with rfl | hm
        · have hp := pow_ge (show 72 ≤ t by omega)
          rw [show (2 : Int) ^ 72 = 4722366482869645213696 by rfl] at hp
          have := Int.mul_le_mul hW1 hp (by omega) w0
          omega
        · exact hm
      obtain ⟨a1, a2⟩ := sgn_sat (apS b) _ hM
      obtain ⟨b1, b2⟩ := sgn_sat (apS b) (apW b * 4722366482869645213696) (by omega)
      rw [a1, a2, b1, b2]; exact ⟨rfl, rfl⟩
end Go.Proofs.Ytjhepjmggenadaa
