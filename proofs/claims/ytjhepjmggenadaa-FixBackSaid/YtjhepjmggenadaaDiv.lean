import Derived.Test.YtjhepjmggenadaaNum2
/- Two words by one, in the school's way: plain arithmetic, no program. -/
namespace Go.Proofs.Ytjhepjmggenadaa
open Go.RowKit

theorem nwrap (x : Int) (h0 : 0 ≤ x) (h1 : x < 18446744073709551616) : IntKind.u64.wrap x = x := by rw [u64w]; omega

/-- What is kept while a digit is guessed: c is the guess, r what is left of the upper word. -/
structure Guess (Y A u Q c r : Int) : Prop where
  low : Q ≤ c
  top : c ≤ 4294967297
  split : c * (Y / 4294967296) + r = A
  r0 : 0 ≤ r
  r1 : r < 4294967296
structure Norm (Y A u Q : Int) : Prop where
  y0 : 9223372036854775808 ≤ Y
  y1 : Y < 18446744073709551616
  a0 : 0 ≤ A
  a1 : A < Y
  u0 : 0 ≤ u
  u1 : u < 4294967296
  quo : Q = (A * 4294967296 + u) / Y

section
variable {Y A u Q c r : Int}
theorem Norm.parts (h : Norm Y A u Q) : 2147483648 ≤ Y / 4294967296 ∧ Y / 4294967296 < 4294967296 ∧ 0 ≤ Y % 4294967296 ∧ Y % 4294967296 < 4294967296 := by
  have := h.y0; have := h.y1; omega
theorem Norm.q0 (h : Norm Y A u Q) : 0 ≤ Q := by
  rw [h.quo]
  have := h.y0; have := h.a0; have := h.u0
  exact Int.ediv_nonneg (by omega) (by omega)
theorem Norm.q1 (h : Norm Y A u Q) : Q < 4294967296 := by
  rw [h.quo]
  have := h.y0; have := h.a1; have := h.u1
  exact Int.ediv_lt_of_lt_mul (by omega) (by omega)
theorem Norm.le_iff (h : Norm Y A u Q) (c : Int) : c ≤ Q ↔ c * Y ≤ A * 4294967296 + u := by
  rw [h.quo]
  exact Int.le_ediv_iff_mul_le (by have := h.y0; omega)
theorem mulY (c Y : Int) : c * Y = (c * (Y / 4294967296)) * 4294967296 + c * (Y % 4294967296) := by
  conv => lhs; rw [← Int.mul_ediv_add_emod Y 4294967296, Int.mul_add, Int.mul_comm 4294967296, ← Int.mul_assoc]
theorem Guess.le_iff (h : Norm Y A u Q) (g : Guess Y A u Q c r) : c ≤ Q ↔ c * (Y % 4294967296) ≤ 4294967296 * r + u := by
  rw [h.le_iff, mulY]
  have := g.split
  generalize c * (Y / 4294967296) = m at *
  generalize c * (Y % 4294967296) = n at *
  constructor <;> intro <;> omega
theorem Guess.nn (h : Norm Y A u Q) (g : Guess Y A u Q c r) : 0 ≤ c * (Y % 4294967296) ∧ 0 ≤ c := by
  have := h.q0; have := g.low; have := h.parts
  exact ⟨Int.mul_nonneg (by omega) (by omega), by omega⟩
theorem Guess.small (h : Norm Y A u Q) (_g : Guess Y A u Q c r) (hc : c < 4294967296) : c * (Y % 4294967296) < 18446744073709551616 := by
  obtain ⟨_, _, h3, h4⟩ := h.parts
  have h1 : c * (Y % 4294967296) ≤ 4294967295 * (Y % 4294967296) := Int.mul_le_mul_of_nonneg_right (by omega) h3
  omega
/-- The guess is the digit. -/
theorem Guess.done (h : Norm Y A u Q) (g : Guess Y A u Q Q r) : Q < 4294967296 ∧ Q * (Y % 4294967296) ≤ 4294967296 * r + u ∧ 0 ≤ Q * (Y % 4294967296) ∧ Q * (Y % 4294967296) < 18446744073709551616 ∧ 4294967296 * r + u < 18446744073709551616 := by
  have := g.r1; have := h.u1
  exact ⟨h.q1, (g.le_iff h).1 (Int.le_refl _), (g.nn h).1, g.small h h.q1, by omega⟩
/-- The guess is too great. -/
theorem Guess.more (h : Norm Y A u Q) (g : Guess Y A u Q c r) (hc : Q < c) : 4294967296 * r + u < c * (Y % 4294967296) := by
  have := g.le_iff h
  omega
theorem Guess.next (h : Norm Y A u Q) (g : Guess Y A u Q c r) (hc : Q < c) (hr : r + Y / 4294967296 < 4294967296) : Guess Y A u Q (c - 1) (r + Y / 4294967296) := by
  have := h.parts; have := g.r0; have := g.top; have := g.split
  refine ⟨by omega, by omega, ?_, by omega, hr⟩
  rw [Int.sub_mul]; omega
theorem Guess.last (h : Norm Y A u Q) (g : Guess Y A u Q c r) (hc : Q < c) (hr : 4294967296 ≤ r + Y / 4294967296) : c - 1 = Q := by
  have h1 : c - 1 ≤ Q := by
    rw [h.le_iff, mulY]
    simp only [Int.sub_mul, Int.one_mul]
    have := g.split; have := g.top; have := h.u0
    obtain ⟨p1, p2, p3, p4⟩ := h.parts
    have h2 : (c - 1) * (Y % 4294967296) ≤ 4294967296 * (Y % 4294967296) := Int.mul_le_mul_of_nonneg_right (by omega) p3
    simp only [Int.sub_mul, Int.one_mul] at h2
    generalize c * (Y / 4294967296) = m at *
    generalize c * (Y % 4294967296) = n at *
    omega
  omega
theorem Norm.start (h : Norm Y A u Q) : Guess Y A u Q (A / (Y / 4294967296)) (A - A / (Y / 4294967296) * (Y / 4294967296)) := by
  obtain ⟨p1, p2, p3, p4⟩ := h.parts
  have e := Int.mul_ediv_add_emod A (Y / 4294967296)
  have e1 := Int.emod_nonneg A (show Y / 4294967296 ≠ 0 by omega)
  have e2 := Int.emod_lt_of_pos A (show 0 < Y / 4294967296 by omega)
  have e3 : A / (Y / 4294967296) * (Y / 4294967296) = Y / 4294967296 * (A / (Y / 4294967296)) := Int.mul_comm _ _
  have ha := h.a1; have hy := h.y1; have hu := h.u1
  refine ⟨?_, ?_, by omega, by omega, by omega⟩
  · rw [Int.le_ediv_iff_mul_le (by omega)]
    have h1 := (h.le_iff Q).1 (Int.le_refl _)
    rw [mulY] at h1
    have h2 : 0 ≤ Q * (Y % 4294967296) := Int.mul_nonneg h.q0 p3
    generalize Q * (Y / 4294967296) = m at *
    generalize Q * (Y % 4294967296) = n at *
    omega
  · have h1 : A / (Y / 4294967296) < 4294967298 := by
      apply Int.ediv_lt_of_lt_mul (by omega)
      have : Y = Y / 4294967296 * 4294967296 + Y % 4294967296 := by omega
      omega
    omega
theorem Norm.rest (h : Norm Y A u Q) : 0 ≤ A * 4294967296 + u - Q * Y ∧ A * 4294967296 + u - Q * Y < Y ∧
    IntKind.u64.wrap (IntKind.u64.wrap (IntKind.u64.wrap (A * 4294967296) + u) - IntKind.u64.wrap (Q * Y)) = A * 4294967296 + u - Q * Y := by
  have e := Int.mul_ediv_add_emod (A * 4294967296 + u) Y
  have e1 := Int.emod_nonneg (A * 4294967296 + u) (show Y ≠ 0 by have := h.y0; omega)
  have e2 := Int.emod_lt_of_pos (A * 4294967296 + u) (show 0 < Y by have := h.y0; omega)
  have e3 : Q * Y = Y * ((A * 4294967296 + u) / Y) := by rw [h.quo, Int.mul_comm]
  have hy := h.y1
  refine ⟨by omega, by omega, ?_⟩
  rw [u64w, u64w, u64w, u64w]
  generalize Q * Y = m at *
  omega
end

theorem and_mask (x : Int) (h : U64 x) : bits .and .u64 x 4294967295 = x % 4294967296 := by
  obtain ⟨h0, h1⟩ := h
  obtain ⟨x, rfl⟩ := Int.eq_ofNat_of_zero_le h0
  have h := bits_and_u64_nat x 4294967295 (by omega) (by omega)
  have e : x &&& 4294967295 = x % 4294967296 := Nat.and_two_pow_sub_one_eq_mod x 32
  rw [e] at h
  exact h.trans (by omega)
theorem and_one (x : Int) (h : U64 x) : bits .and .u64 x 1 = x % 2 := by
  obtain ⟨h0, h1⟩ := h
  obtain ⟨x, rfl⟩ := Int.eq_ofNat_of_zero_le h0
  have h := bits_and_u64_nat x 1 (by omega) (by omega)
  have e : x &&& 1 = x % 2 := Nat.and_one_is_mod x
  rw [e] at h
  exact h.trans (by omega)

/-- The two words, shifted so that the divisor's highest bit stands at the top. -/
theorem shift_words (h l y : Int) (k : Nat) (hk : k < 64) (hh : 0 ≤ h) (hhy : h < y) (hl : U64 l) (y0 : 9223372036854775808 ≤ y * 2 ^ k) (y1 : y * 2 ^ k < 18446744073709551616) :
    ∃ A B, 0 ≤ A ∧ A < y * 2 ^ k ∧ U64 B ∧ (h * 18446744073709551616 + l) * 2 ^ k = A * 18446744073709551616 + B ∧
      bits .or .u64 (IntKind.u64.wrap (h * 2 ^ k)) (l / 2 ^ (64 - k)) = A ∧ IntKind.u64.wrap (l * 2 ^ k) = B := by
  have hlo : lo l = l := by unfold lo; unfold U64 at hl; omega
  have hhi : hi l = 0 := by unfold hi; unfold U64 at hl; omega
  obtain ⟨B, hB, e1, e2⟩ := shl_parts l k (by omega)
  rw [hlo, hhi] at e1
  rw [hlo] at e2
  simp only [Int.zero_mul, Int.zero_add] at e1
  obtain ⟨t1, t2⟩ := u64_half l k (by omega) hl
  have hp := pow_pos' k
  have hpr := pow_split k (by omega)
  have hh2 : 0 ≤ h * 2 ^ k := Int.mul_nonneg hh (by omega)
  have h3 : h * 2 ^ k + 2 ^ k ≤ y * 2 ^ k := by
    have : (h + 1) * 2 ^ k ≤ y * 2 ^ k := Int.mul_le_mul_of_nonneg_right (by omega) (by omega)
    rw [Int.add_mul, Int.one_mul] at this
    exact this
  refine ⟨h * 2 ^ k + l / 2 ^ (64 - k), B, by omega, by omega, hB, ?_, ?_, by rw [u64w]; exact e2⟩
  · rw [Int.add_mul, e1, Int.mul_right_comm, Int.add_mul]; omega
  · have e3 : IntKind.u64.wrap (h * 2 ^ k) = h * 2 ^ k := nwrap _ hh2 (by omega)
    rw [e3, or_u64 _ _ k (by omega) (Int.mul_emod_left _ _) t1 t2]
    generalize (2 : Int) ^ k = P at *
    generalize l / 2 ^ (64 - k) = t at *
    omega

/-- The end of it. -/
theorem div_end (h l y A B Q1 Q0 : Int) (k : Nat) (hy : 0 < y) (e : (h * 18446744073709551616 + l) * 2 ^ k = A * 18446744073709551616 + B)
    (n1 : Norm (y * 2 ^ k) A (B / 4294967296) Q1) (n0 : Norm (y * 2 ^ k) (A * 4294967296 + B / 4294967296 - Q1 * (y * 2 ^ k)) (B % 4294967296) Q0) :
    Q1 * 4294967296 + Q0 = (h * 18446744073709551616 + l) / y ∧
    ((A * 4294967296 + B / 4294967296 - Q1 * (y * 2 ^ k)) * 4294967296 + B % 4294967296 - Q0 * (y * 2 ^ k)) / 2 ^ k = (h * 18446744073709551616 + l) % y ∧
    IntKind.u64.wrap (IntKind.u64.wrap (Q1 * 4294967296) + Q0) = (h * 18446744073709551616 + l) / y := by
  obtain ⟨r1, r2, _⟩ := n0.rest
  have hp := pow_pos' k
  have hq0 := n1.q0; have hq1 := n1.q1; have hq2 := n0.q0; have hq3 := n0.q1
  generalize hR : (A * 4294967296 + B / 4294967296 - Q1 * (y * 2 ^ k)) * 4294967296 + B % 4294967296 - Q0 * (y * 2 ^ k) = R at *
  have h1 : (h * 18446744073709551616 + l) * 2 ^ k = (Q1 * 4294967296 + Q0) * y * 2 ^ k + R := by
    rw [e, ← hR, Int.mul_assoc (Q1 * 4294967296 + Q0), Int.add_mul, Int.mul_right_comm Q1, Int.sub_mul, Int.add_mul]
    generalize Q1 * (y * 2 ^ k) = m
    generalize Q0 * (y * 2 ^ k) = n
    omega
  have h2 : R = (h * 18446744073709551616 + l - (Q1 * 4294967296 + Q0) * y) * 2 ^ k := by rw [Int.sub_mul]; omega
  generalize h * 18446744073709551616 + l = N at *
  generalize hqq : Q1 * 4294967296 + Q0 = q at *
  have h3 : 0 ≤ N - q * y := by
    rw [h2] at r1
    exact Int.nonneg_of_mul_nonneg_left r1 hp
  have h4 : N - q * y < y := by
    rw [h2] at r2
    exact Int.lt_of_mul_lt_mul_right r2 (by omega)
  have h5 : N / y = q := by
    have : N = (N - q * y) + q * y := by omega
    rw [this, Int.add_mul_ediv_right _ _ (by omega), Int.ediv_eq_zero_of_lt h3 h4]; omega
  have h6 : N % y = N - q * y := by rw [Int.emod_def, h5, Int.mul_comm]
  refine ⟨h5.symm, ?_, ?_⟩
  · rw [h2, h6, Int.mul_ediv_cancel _ (by omega)]
  · rw [h5, u64w, u64w]; omega
end Go.Proofs.Ytjhepjmggenadaa
