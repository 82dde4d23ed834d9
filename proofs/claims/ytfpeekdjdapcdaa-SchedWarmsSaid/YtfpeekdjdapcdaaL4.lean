import Derived.Test.YtfpeekdjdapcdaaW2
import Derived.Test.YtfpeekdjdapcdaaLong
import Derived.Test.YtfpeekdjdapcdaaDiv
import Derived.Deep.QuietTactic
import Derived.BigQuiet
import Derived.RegionTactic
import Derived.BigRegion
import Derived.LoopN
import Derived.Deep.RegionHeld3
import Derived.Test.YtfpeekdjdapcdaaL3
import Derived.Test.YtfpeekdjdapcdaaW6
/- Long numbers: Plus, Near. -/
namespace Go.Proofs.Ytfpeekdjdapcdaa
open Go.RowKit
attribute [local go_sem ↓] Go.wp_at_zero Go.wp_at_succ

/-- What Near answers. -/
def nearI (a n : Int) : Int × Bool := if n ≤ 0 then (clampI a, overI a) else if 191 < n then (0, false) else (clampI (rnd a (2 ^ n.toNat)), overI (rnd a (2 ^ n.toNat)))

theorem near_nums (a n : Int) (ha : In192 a) (h0 : 0 < n) (h1 : n ≤ 191) :
    rnd a (2 ^ n.toNat) = (if a / 2 ^ (n - 1).toNat % 2 = 1 ∧ (¬ a % 2 ^ (n - 1).toNat = 0 ∨ a / 2 ^ n.toNat % 2 = 1) then a / 2 ^ n.toNat + 1 else a / 2 ^ n.toNat) ∧ In192 (a / 2 ^ n.toNat) ∧ In192 (a / 2 ^ n.toNat + 1) := by
  obtain ⟨k, hk⟩ : ∃ k : Nat, n.toNat = k + 1 := ⟨n.toNat - 1, by omega⟩
  have e4 : (2 : Int) ^ n.toNat = 2 * 2 ^ k := by rw [hk, Int.pow_succ, Int.mul_comm]
  have hp := pow_pos' k
  have i1 := in192_down ha n.toNat
  have i2 : In192 (a / 2 ^ n.toNat + 1) := by
    have h2 : a / 2 ^ n.toNat < 1569275433846670190958947355801916604025588861116008628224 := by
      rw [e4, Int.mul_comm, ← Int.ediv_ediv_of_nonneg (by omega)]
      have := in192_down ha k
      unfold In192 at this
      omega
    unfold In192 at i1 ⊢; omega
  refine ⟨?_, i1, i2⟩
  rw [show (n - 1).toNat = k by omega]
  unfold rnd
  rw [e4]
  have e5 : a / (2 * 2 ^ k) = a / 2 ^ k / 2 := by rw [Int.mul_comm, Int.ediv_ediv_of_nonneg (by omega)]
  have e6 : a % (2 * 2 ^ k) = a % 2 ^ k + 2 ^ k * (a / 2 ^ k % 2) := by
    have h3 := Int.mul_ediv_add_emod a (2 * 2 ^ k)
    have h4 := Int.mul_ediv_add_emod a (2 ^ k)
    rw [e5] at h3
    have h5 : 2 ^ k * (a / 2 ^ k) = 2 ^ k * (2 * (a / 2 ^ k / 2)) + 2 ^ k * (a / 2 ^ k % 2) := by rw [← Int.mul_add]; congr 1; omega
    have h6 : 2 * 2 ^ k * (a / 2 ^ k / 2) = 2 ^ k * (2 * (a / 2 ^ k / 2)) := by rw [Int.mul_comm 2, Int.mul_assoc]
    omega
  have h7 := Int.emod_nonneg a (show (2 : Int) ^ k ≠ 0 by omega)
  have h8 := Int.emod_lt_of_pos a hp
  rw [e5, e6]
  have h9 : a / 2 ^ k % 2 = 0 ∨ a / 2 ^ k % 2 = 1 := by omega
  generalize a % 2 ^ k = r at *
  generalize a / 2 ^ k = d at *
  generalize (2 : Int) ^ k = P at *
  rcases h9 with h9 | h9 <;> rw [h9]
  · rw [if_neg (by omega), if_neg (by omega)]
  · by_cases h10 : ¬ r = 0 ∨ d / 2 % 2 = 1
    · rw [if_pos (by omega), if_pos (by omega)]
    · rw [if_neg (by omega), if_neg (by omega)]
theorem one_words : q0 1 = 1 ∧ q1 1 = 0 ∧ q2 1 = 0 := by decide

end Go.Proofs.Ytfpeekdjdapcdaa
