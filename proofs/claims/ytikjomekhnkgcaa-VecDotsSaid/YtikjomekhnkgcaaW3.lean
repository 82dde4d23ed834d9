import Derived.Test.YtikjomekhnkgcaaW2
import Derived.Test.YtikjomekhnkgcaaLen
/- How many bits a number has. -/
namespace Go.Proofs.Ytikjomekhnkgcaa
open Go.RowKit

theorem bitLen_bounds : ∀ (f x : Nat), x < 2 ^ f → x < 2 ^ Lib.bitLenAux f x ∧ (x ≠ 0 → 2 ^ Lib.bitLenAux f x ≤ 2 * x ∧ 1 ≤ Lib.bitLenAux f x) ∧ Lib.bitLenAux f x ≤ f
  | 0, x, h => by
    have h0 : x = 0 := by simpa using h
    subst h0
    simp [Lib.bitLenAux]
  | f + 1, x, h => by
    simp only [Lib.bitLenAux]
    by_cases h0 : x = 0
    · subst h0; simp
    · obtain ⟨i1, i2, i3⟩ := bitLen_bounds f (x / 2) (by rw [Nat.pow_succ] at h; omega)
      rw [if_neg h0, Nat.add_comm, Nat.pow_succ]
      refine ⟨by omega, fun _ => ?_, by omega⟩
      by_cases h2 : x / 2 = 0
      · have : x = 1 := by omega
        subst this
        cases f <;> simp [Lib.bitLenAux]
      · have := i2 h2; omega

/-- How far a word is shifted till its highest bit stands at the top. -/
theorem lead_spec (y : Int) (h : U64 y) (h0 : 0 < y) : ∃ s : Nat, s < 64 ∧ (64 : Int) - (Lib.bitLen y.toNat : Int) = s ∧ 9223372036854775808 ≤ y * 2 ^ s ∧ y * 2 ^ s < 18446744073709551616 := by
  obtain ⟨y, rfl⟩ := Int.eq_ofNat_of_zero_le (show 0 ≤ y by omega)
  unfold U64 at h
  obtain ⟨i1, i2, i3⟩ := bitLen_bounds 64 y (by omega)
  obtain ⟨i4, i5⟩ := i2 (by omega)
  have e : Lib.bitLen (y : Int).toNat = Lib.bitLenAux 64 y := rfl
  rw [e]
  generalize Lib.bitLenAux 64 y = k at *
  refine ⟨64 - k, by omega, by omega, ?_, ?_⟩
  · have h1 : 2 ^ k * 2 ^ (64 - k) = 2 ^ 64 := by rw [← Nat.pow_add]; congr 1; omega
    have h2 : 2 ^ k * 2 ^ (64 - k) ≤ 2 * y * 2 ^ (64 - k) := Nat.mul_le_mul_right _ i4
    have h3 : 2 * y * 2 ^ (64 - k) = 2 * (y * 2 ^ (64 - k)) := Nat.mul_assoc _ _ _
    have h4 : ((y * 2 ^ (64 - k) : Nat) : Int) = (y : Int) * 2 ^ (64 - k) := by push_cast; rfl
    rw [← h4]; omega
  · have h1 : 2 ^ k * 2 ^ (64 - k) = 2 ^ 64 := by rw [← Nat.pow_add]; congr 1; omega
    have h2 : y * 2 ^ (64 - k) < 2 ^ k * 2 ^ (64 - k) := Nat.mul_lt_mul_of_pos_right i1 (Nat.two_pow_pos _)
    have h4 : ((y * 2 ^ (64 - k) : Nat) : Int) = (y : Int) * 2 ^ (64 - k) := by push_cast; rfl
    rw [← h4]; omega

theorem lead64 (y : Int) (hy : U64 y) (h0 : 0 < y) (w : World) :
    Calls Try.prog 124 #[.int .u64 y] w fun e w' => e = .returned (.int .i64 (64 - (Lib.bitLen y.toNat : Int))) ∧ w = w' := by
  obtain ⟨h1, h2⟩ := hy
  obtain ⟨s, s1, s2, _, _⟩ := lead_spec y ⟨h1, h2⟩ h0
  have L := Lib.hid (fun W => len64 y W h1 (by omega))
  have b1 : 0 ≤ (64 : Int) - (Lib.bitLen y.toNat : Int) := by omega
  have b2 : 0 ≤ (Lib.bitLen y.toNat : Int) := by omega
  clear s2
  generalize (Lib.bitLen y.toNat : Int) = k at *
  go_enter Try.func124, Try.ntmps124
  go_wp2_with (go_at_call 126; refine (L.out _).mono ?_; rintro e w1 ⟨rfl, rfl⟩)
  go_ret
  exact ⟨rfl, rfl⟩
end Go.Proofs.Ytikjomekhnkgcaa
