import Derived.Test.YtfpeekdjdapcdaaW2
import Derived.Test.YtfpeekdjdapcdaaLong
import Derived.Test.YtfpeekdjdapcdaaDiv
import Derived.Deep.QuietTactic
import Derived.BigQuiet
import Derived.RegionTactic
import Derived.BigRegion
import Derived.LoopN
import Derived.Deep.RegionHeld3
/- Long numbers: are all bits below a place 0? -/
namespace Go.Proofs.Ytfpeekdjdapcdaa
open Go.RowKit

theorem bare_word (x : Int) (k : Int) (h0 : 0 < k) (h1 : k < 64) : (IntKind.u64.wrap (x * 2 ^ (64 - k).toNat) = 0) ↔ x % 2 ^ k.toNat = 0 := by
  have hs := pow_split k.toNat (by omega)
  have hp := pow_pos' k.toNat
  have hr := pow_pos' (64 - k.toNat)
  rw [show (64 - k).toNat = 64 - k.toNat by omega, u64w, ← hs, Int.mul_comm x, Int.mul_comm (2 ^ k.toNat), Int.mul_emod_mul_of_pos _ _ hr]
  constructor
  · intro h
    rcases Int.mul_eq_zero.1 h with h2 | h2
    · omega
    · exact h2
  · intro h; rw [h]; simp
/-- Word by word. -/
theorem bare_iff (a n : Int) (h0 : 0 ≤ n) (h1 : n ≤ 190) :
    (n ≤ 64 → (a % 2 ^ n.toNat = 0 ↔ q0 a % 2 ^ n.toNat = 0)) ∧
    (64 ≤ n → n ≤ 128 → (a % 2 ^ n.toNat = 0 ↔ q0 a = 0 ∧ q1 a % 2 ^ (n - 64).toNat = 0)) ∧
    (128 ≤ n → (a % 2 ^ n.toNat = 0 ↔ q0 a = 0 ∧ q1 a = 0 ∧ q2 a % 2 ^ (n - 128).toNat = 0)) := by
  have key : ∀ (X : Int) (k : Nat), k ≤ 64 → X % 18446744073709551616 % 2 ^ k = X % 2 ^ k := fun X k hk => Int.emod_emod_of_dvd _ ⟨2 ^ (64 - k), (pow_split k hk).symm⟩
  have up : ∀ (X : Int) (k : Nat), (X % (18446744073709551616 * 2 ^ k) = 0 ↔ X % 18446744073709551616 = 0 ∧ X / 18446744073709551616 % 2 ^ k = 0) := by
    intro X k
    have hp := pow_pos' k
    generalize (2 : Int) ^ k = P at *
    have e := Int.mul_ediv_add_emod X 18446744073709551616
    have e2 := Int.mul_ediv_add_emod (X / 18446744073709551616) P
    constructor
    · intro h
      have hd := Int.dvd_of_emod_eq_zero h
      have h3 : X % 18446744073709551616 = 0 := Int.emod_eq_zero_of_dvd (Int.dvd_trans ⟨P, rfl⟩ hd)
      refine ⟨h3, Int.emod_eq_zero_of_dvd ?_⟩
      obtain ⟨c, hc⟩ := hd
      refine ⟨c, ?_⟩
      rw [hc, Int.mul_assoc, Int.mul_ediv_cancel_left _ (by omega)]
    · rintro ⟨h3, h4⟩
      apply Int.emod_eq_zero_of_dvd
      obtain ⟨c, hc⟩ := Int.dvd_of_emod_eq_zero h4
      exact ⟨c, by rw [Int.mul_assoc, ← hc]; omega⟩
  refine ⟨fun h => ?_, fun h2 h3 => ?_, fun h2 => ?_⟩
  · unfold q0; rw [key a _ (by omega)]
  · have e : (2 : Int) ^ n.toNat = 18446744073709551616 * 2 ^ (n - 64).toNat := by
      rw [show n.toNat = 64 + (n - 64).toNat by omega, Int.pow_add, p64]
    rw [e, up]; unfold q0 q1; rw [key _ _ (by omega)]
  · have e : (2 : Int) ^ n.toNat = 18446744073709551616 * 2 ^ (64 + (n - 128).toNat) := by
      rw [show n.toNat = 64 + (64 + (n - 128).toNat) by omega, Int.pow_add, p64]
    have e2 : (2 : Int) ^ (64 + (n - 128).toNat) = 18446744073709551616 * 2 ^ (n - 128).toNat := by rw [Int.pow_add, p64]
    rw [e, up, e2, up]; unfold q0 q1 q2; rw [key _ _ (by omega)]

theorem bne_of {x y : Int} (h : x ≠ y) : (x != y) = true := by simpa using h
theorem bne_no {x y : Int} (h : x = y) : (x != y) = false := by simpa using h

end Go.Proofs.Ytfpeekdjdapcdaa
