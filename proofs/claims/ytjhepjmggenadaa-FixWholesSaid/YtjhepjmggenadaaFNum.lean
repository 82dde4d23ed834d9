import Derived.Test.YtjhepjmggenadaaF3
/- What a float64 stands for, plain: no number, the infinities, all others. -/
namespace Go.Proofs.Ytjhepjmggenadaa

theorem read_cases (b : Nat) : (∃ s m p, Ieee.double.read b = .number s m p ∧ m < 9007199254740992 ∧ p ≤ 971 ∧ b % 9223372036854775808 < 9218868437227405312) ∨
    (Ieee.double.read b = .infinity (b / 9223372036854775808 % 2 == 1) ∧ b % 9223372036854775808 = 9218868437227405312) ∨
    (∃ s t, Ieee.double.read b = .nan s t ∧ 9218868437227405312 < b % 9223372036854775808) := by
  have e1 : Ieee.double.signWeight = 9223372036854775808 := by decide
  have e2 : Ieee.double.binade = 4503599627370496 := by decide
  have e3 : Ieee.double.infRung = 9218868437227405312 := by decide
  have e4 : Ieee.double.leastPlace = -1074 := by decide
  unfold Ieee.Format.read
  simp only [e1, e2, e3, e4]
  by_cases h1 : b % 9223372036854775808 < 4503599627370496
  · rw [if_pos h1]
    exact .inl ⟨_, _, _, rfl, by omega, by omega, by omega⟩
  · rw [if_neg h1]
    by_cases h2 : b % 9223372036854775808 < 9218868437227405312
    · rw [if_pos h2]
      exact .inl ⟨_, _, _, rfl, by omega, by omega, h2⟩
    · rw [if_neg h2]
      by_cases h3 : b % 9223372036854775808 = 9218868437227405312
      · rw [if_pos h3]
        exact .inr (.inl ⟨rfl, h3⟩)
      · rw [if_neg h3]
        exact .inr (.inr ⟨_, _, rfl, by omega⟩)
theorem nan_order (b : Nat) : (FloatKind.f64.format.order b b != some Ordering.eq) = decide (9218868437227405312 < b % 9223372036854775808) := by
  show ((Ieee.double.read b).order (Ieee.double.read b) != some Ordering.eq) = _
  rcases read_cases b with ⟨s, m, p, e, _, _, h⟩ | ⟨e, h⟩ | ⟨s, t, e, h⟩
  · rw [e, decide_eq_false (by omega)]
    simp [Ieee.Datum.order]
  · rw [e, decide_eq_false (by omega)]
    simp [Ieee.Datum.order]
  · rw [e, decide_eq_true h]
    simp [Ieee.Datum.order]
theorem max_read : Ieee.double.read 9218868437227405311 = .number false 9007199254740991 971 := by decide
theorem inf_order (b : Nat) (hb : b < 18446744073709551616) : (FloatKind.f64.format.order b 9218868437227405311 == some Ordering.gt) = decide (b = 9218868437227405312) := by
  show ((Ieee.double.read b).order (Ieee.double.read 9218868437227405311) == some Ordering.gt) = _
  rw [max_read]
  rcases read_cases b with ⟨s, m, p, e, hm, hp, h⟩ | ⟨e, h⟩ | ⟨s, t, e, h⟩
  · rw [e, decide_eq_false (by omega)]
    have h1 : min p 971 = p := by omega
    have h2 : (p - p).toNat = 0 := by omega
    have h3 : (1 : Nat) ≤ 2 ^ (971 - p).toNat := Nat.one_le_two_pow
    have h4 : 9007199254740991 * 1 ≤ 9007199254740991 * 2 ^ (971 - p).toNat := Nat.mul_le_mul_left _ h3
    simp only [Ieee.Datum.order, h1, h2]
    have h5 : Ieee.signed s m 0 ≤ Ieee.signed false 9007199254740991 (971 - p).toNat := by
      unfold Ieee.signed
      simp only [Nat.shiftLeft_eq, Nat.pow_zero, Nat.mul_one]
      generalize 9007199254740991 * 2 ^ (971 - p).toNat = M at *
      cases s <;> simp <;> omega
    generalize Ieee.signed s m 0 = A at *
    generalize Ieee.signed false 9007199254740991 (971 - p).toNat = B at *
    show (some (compareOfLessAndEq A B) == some Ordering.gt) = false
    unfold compareOfLessAndEq
    by_cases c1 : A < B
    · rw [if_pos c1]; rfl
    · rw [if_neg c1, if_pos (by omega)]; rfl
  · rw [e]
    by_cases h2 : b = 9218868437227405312
    · subst h2; decide
    · have h3 : (b / 9223372036854775808 % 2 == 1) = true := by simp; omega
      rw [h3, decide_eq_false h2]
      rfl
  · rw [e, decide_eq_false (by omega)]
    rfl
theorem ninf_order (b : Nat) (hb : b < 18446744073709551616) : (FloatKind.f64.format.order (b ^^^ 9223372036854775808) 9218868437227405311 == some Ordering.gt) = decide (b = 18442240474082181120) := by
  rw [inf_order _ (Nat.xor_lt_two_pow (n := 64) (by omega) (by omega)), decide_eq_decide]
  constructor
  · intro h
    have e : b = (b ^^^ 9223372036854775808) ^^^ 9223372036854775808 := by rw [Nat.xor_assoc, Nat.xor_self, Nat.xor_zero]
    rw [e, h]
    decide
  · intro h
    subst h
    decide
end Go.Proofs.Ytjhepjmggenadaa
