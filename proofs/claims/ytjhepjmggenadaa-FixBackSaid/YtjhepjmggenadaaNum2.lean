import Derived.WalkKit
import Derived.Test.YtjhepjmggenadaaNum
/- Shifts of wide numbers: plain arithmetic, no program. -/
namespace Go.Proofs.Ytjhepjmggenadaa
open Go.RowKit

theorem u64w (x : Int) : IntKind.u64.wrap x = x % 18446744073709551616 := IntKind.wrap_u64 x

theorem p64 : (2 : Int) ^ 64 = 18446744073709551616 := by decide
theorem pow_pos' (n : Nat) : (0 : Int) < 2 ^ n := Int.pow_pos (by decide)
theorem pow_split (n : Nat) (h : n ≤ 64) : (2 : Int) ^ n * 2 ^ (64 - n) = 18446744073709551616 := by
  rw [← Int.pow_add, show n + (64 - n) = 64 by omega, p64]

/-- Two words of 64 bits without a bit in common. -/
theorem bv_or (x y : Int) (n : Nat) (hn : n ≤ 64) (hx : x % 2 ^ n = 0) (hy0 : 0 ≤ y) (hy : y < 2 ^ n) :
    (((BitVec.ofInt 64 x ||| BitVec.ofInt 64 y).toNat : Nat) : Int) = (x + y) % 18446744073709551616 := by
  have hpr := pow_split n hn
  have hp := pow_pos' n
  have hr := pow_pos' (64 - n)
  generalize hP : (2 : Int) ^ n = P at *
  generalize (2 : Int) ^ (64 - n) = R at *
  obtain ⟨q, rfl⟩ : ∃ q, x = P * q := ⟨x / P, by have := Int.mul_ediv_add_emod x P; omega⟩
  have hq : (P * q) % 18446744073709551616 = P * (q % R) := by rw [← hpr, Int.mul_emod_mul_of_pos q R hp]
  have hq0 : 0 ≤ q % R := Int.emod_nonneg _ (by omega)
  have hq1 : q % R < R := Int.emod_lt_of_pos _ hr
  have hyM : y < 18446744073709551616 := by
    have : P * 1 ≤ P * R := Int.mul_le_mul_of_nonneg_left (by omega) (by omega)
    omega
  obtain ⟨a, ha⟩ := Int.eq_ofNat_of_zero_le hq0
  obtain ⟨b, rfl⟩ := Int.eq_ofNat_of_zero_le hy0
  have hPn : P = ((2 ^ n : Nat) : Int) := by rw [← hP]; push_cast; rfl
  have e1 : (BitVec.ofInt 64 (P * q)).toNat = 2 ^ n * a := by
    rw [BitVec.toNat_ofInt]
    have : (P * q) % ((2 ^ 64 : Nat) : Int) = ((2 ^ n * a : Nat) : Int) := by
      have : ((2 ^ 64 : Nat) : Int) = 18446744073709551616 := by decide
      rw [this, hq, ha, hPn]; push_cast; rfl
    rw [this]; rfl
  have e2 : (BitVec.ofInt 64 (b : Int)).toNat = b := by
    rw [BitVec.toNat_ofInt]
    have h2 : ((2 ^ 64 : Nat) : Int) = 18446744073709551616 := by decide
    rw [h2]; omega
  have hb : b < 2 ^ n := by rw [hPn] at hy; exact_mod_cast hy
  rw [BitVec.toNat_or, e1, e2, ← Nat.two_pow_add_eq_or_of_lt hb]
  have h3 : (P * q + (b : Int)) % 18446744073709551616 = P * (q % R) + b := by
    have h4 : P * q = P * (q % R) + 18446744073709551616 * (q / R) := by
      rw [← hpr, Int.mul_assoc, ← Int.mul_add, Int.emod_add_mul_ediv]
    have h5 : P * (q % R) + b < 18446744073709551616 := by
      have : P * (q % R) ≤ P * (R - 1) := Int.mul_le_mul_of_nonneg_left (by omega) (by omega)
      have : P * (R - 1) = P * R - P := by rw [Int.mul_sub, Int.mul_one]
      omega
    have h6 : 0 ≤ P * (q % R) := Int.mul_nonneg (by omega) hq0
    rw [h4, show P * (q % R) + 18446744073709551616 * (q / R) + (b : Int) = (P * (q % R) + b) + 18446744073709551616 * (q / R) by omega, Int.add_mul_emod_self_left]
    exact Int.emod_eq_of_lt (by omega) h5
  rw [h3, ha, hPn]; push_cast; rfl

theorem or_i64 (x y : Int) (n : Nat) (hn : n ≤ 64) (hx : x % 2 ^ n = 0) (hy0 : 0 ≤ y) (hy : y < 2 ^ n) : bits .or .i64 x y = wrap64 (x + y) := by
  show IntKind.i64.wrap ((BitVec.ofInt 64 x ||| BitVec.ofInt 64 y).toNat : Int) = _
  rw [bv_or x y n hn hx hy0 hy, IntKind.wrap_i64]; unfold wrap64; omega
theorem or_u64 (x y : Int) (n : Nat) (hn : n ≤ 64) (hx : x % 2 ^ n = 0) (hy0 : 0 ≤ y) (hy : y < 2 ^ n) : bits .or .u64 x y = (x + y) % 18446744073709551616 := by
  show IntKind.u64.wrap ((BitVec.ofInt 64 x ||| BitVec.ofInt 64 y).toNat : Int) = _
  rw [bv_or x y n hn hx hy0 hy, IntKind.wrap_u64]; omega
theorem or_comm64 (k : IntKind) (x y : Int) : bits .or k x y = bits .or k y x := by
  show k.wrap ((BitVec.ofInt k.bits x ||| BitVec.ofInt k.bits y).toNat : Int) = k.wrap ((BitVec.ofInt k.bits y ||| BitVec.ofInt k.bits x).toNat : Int)
  rw [BitVec.or_comm]

theorem wrap64_mod (x : Int) (n : Nat) (hn : n ≤ 64) : wrap64 x % 2 ^ n = x % 2 ^ n := by
  have hpr := pow_split n hn
  have : wrap64 x = x + 2 ^ n * (2 ^ (64 - n) * (-((x + 9223372036854775808) / 18446744073709551616))) := by
    rw [← Int.mul_assoc, hpr]; unfold wrap64; omega
  rw [this, Int.add_mul_emod_self_left]
theorem hi_of (x y : Int) (hy : U64 y) : hi (w128 (x * 18446744073709551616 + y)) = wrap64 x := by unfold U64 at hy; unfold hi w128 wrap64; omega
theorem lo_of (x y : Int) (hy : U64 y) : lo (w128 (x * 18446744073709551616 + y)) = y := by unfold U64 at hy; unfold lo w128; omega
theorem u64_half (l : Int) (n : Nat) (hn : n ≤ 64) (hl : U64 l) : 0 ≤ l / 2 ^ (64 - n) ∧ l / 2 ^ (64 - n) < 2 ^ n := by
  have hpr := pow_split n hn
  have hr := pow_pos' (64 - n)
  exact ⟨Int.ediv_nonneg hl.1 (by omega), Int.ediv_lt_of_lt_mul hr (by rw [hpr]; exact hl.2)⟩
theorem pow_le63 (n : Nat) (hn : n < 64) : (2 : Int) ^ n ≤ 9223372036854775808 := by
  have := pow_split n (by omega)
  have h2 : (2 : Int) ≤ 2 ^ (64 - n) := by
    have : (2 : Int) ^ (64 - n) = 2 ^ (64 - n - 1) * 2 := by rw [← Int.pow_succ]; congr 1; omega
    have := pow_pos' (64 - n - 1); omega
  have := pow_pos' n
  have : (2 : Int) ^ n * 2 ≤ 2 ^ n * 2 ^ (64 - n) := Int.mul_le_mul_of_nonneg_left h2 (by omega)
  omega

/-- The low word of a product by 2^n. -/
theorem shl_parts (a : Int) (n : Nat) (hn : n ≤ 64) : ∃ y, U64 y ∧ a * 2 ^ n = (hi a * 2 ^ n + lo a / 2 ^ (64 - n)) * 18446744073709551616 + y ∧ (lo a * 2 ^ n) % 18446744073709551616 = y := by
  have hpr := pow_split n hn
  have hp := pow_pos' n
  have hr := pow_pos' (64 - n)
  generalize (2 : Int) ^ n = P at *
  generalize (2 : Int) ^ (64 - n) = R at *
  have h1 := Int.emod_nonneg (lo a) (show R ≠ 0 by omega)
  have h2 := Int.emod_lt_of_pos (lo a) hr
  have h3 := Int.mul_ediv_add_emod (lo a) R
  have h4 : lo a * P = (lo a / R) * 18446744073709551616 + (lo a % R) * P := by
    conv => lhs; rw [← h3]
    rw [Int.add_mul, ← hpr, Int.mul_comm P R, ← Int.mul_assoc, Int.mul_comm (lo a / R) R]
  have h5 : (lo a % R) * P < 18446744073709551616 := by
    have : (lo a % R) * P ≤ (R - 1) * P := Int.mul_le_mul_of_nonneg_right (by omega) (by omega)
    have : (R - 1) * P = P * R - P := by rw [Int.sub_mul, Int.one_mul, Int.mul_comm]
    omega
  have h6 : 0 ≤ (lo a % R) * P := Int.mul_nonneg h1 (by omega)
  refine ⟨(lo a % R) * P, ⟨h6, h5⟩, ?_, by omega⟩
  conv => lhs; rw [← hi_lo a]
  rw [Int.add_mul, h4, Int.add_mul, Int.mul_assoc, Int.mul_comm 18446744073709551616 P, ← Int.mul_assoc]
  omega
theorem shl_lo (a : Int) (n : Nat) (hn : n ≤ 64) : lo (w128 (a * 2 ^ n)) = IntKind.u64.wrap (lo a * 2 ^ n) := by
  obtain ⟨y, hy, e1, e2⟩ := shl_parts a n hn
  rw [e1, lo_of _ _ hy, u64w, e2]
theorem shl_hi (a : Int) (n : Nat) (hn : n < 64) : hi (w128 (a * 2 ^ n)) = bits .or .i64 (wrap64 (hi a * 2 ^ n)) (wrap64 (lo a / 2 ^ (64 - n))) := by
  obtain ⟨y, hy, e1, e2⟩ := shl_parts a n (by omega)
  obtain ⟨t1, t2⟩ := u64_half (lo a) n (by omega) (lo_u a)
  have h63 := pow_le63 n hn
  rw [e1, hi_of _ _ hy]
  have e3 : wrap64 (lo a / 2 ^ (64 - n)) = lo a / 2 ^ (64 - n) := by
    generalize (2 : Int) ^ n = P at *
    generalize lo a / 2 ^ (64 - n) = t at *
    unfold wrap64; omega
  rw [e3, or_i64 _ _ n (by omega) (by rw [wrap64_mod _ n (by omega)]; exact Int.mul_emod_left _ _) t1 t2]
  generalize hi a * 2 ^ n = u
  generalize lo a / 2 ^ (64 - n) = t
  unfold wrap64; omega
/-- By 64 bits and more. -/
theorem shl_big_hi (a : Int) (n : Nat) : hi (w128 (a * 2 ^ (n + 64))) = wrap64 (IntKind.u64.wrap (lo a * 2 ^ n)) ∧ lo (w128 (a * 2 ^ (n + 64))) = 0 := by
  have e : a * 2 ^ (n + 64) = (a * 2 ^ n) * 18446744073709551616 + 0 := by rw [Int.pow_add, p64, Int.mul_assoc]; omega
  have h0 : U64 0 := ⟨by omega, by omega⟩
  rw [e, hi_of _ _ h0, lo_of _ _ h0]
  refine ⟨?_, rfl⟩
  have : a * 2 ^ n = hi a * 2 ^ n * 18446744073709551616 + lo a * 2 ^ n := by
    conv => lhs; rw [← hi_lo a]
    rw [Int.add_mul, Int.mul_assoc, Int.mul_comm 18446744073709551616, ← Int.mul_assoc]
  rw [this, u64w]
  generalize hi a * 2 ^ n = u
  generalize lo a * 2 ^ n = v
  unfold wrap64; omega

/-! ### to the right -/
theorem shr_in (a : Int) (n : Nat) (h : In128 a) : In128 (a / 2 ^ n) := by
  have hp := pow_pos' n
  have h1 : (1 : Int) ≤ 2 ^ n := by omega
  obtain ⟨h2, h3⟩ := h
  refine ⟨?_, ?_⟩
  · rw [Int.le_ediv_iff_mul_le hp]
    have : (170141183460469231731687303715884105728 : Int) * 1 ≤ 170141183460469231731687303715884105728 * 2 ^ n := Int.mul_le_mul_of_nonneg_left h1 (by omega)
    omega
  · rw [Int.ediv_lt_iff_lt_mul hp]
    have : (170141183460469231731687303715884105728 : Int) * 1 ≤ 170141183460469231731687303715884105728 * 2 ^ n := Int.mul_le_mul_of_nonneg_left h1 (by omega)
    omega
theorem shr_parts (a : Int) (n : Nat) (hn : n ≤ 64) : ∃ y, U64 y ∧ a / 2 ^ n = (hi a / 2 ^ n) * 18446744073709551616 + y ∧ y = (hi a % 2 ^ n) * 2 ^ (64 - n) + lo a / 2 ^ n := by
  have hpr := pow_split n hn
  have hp := pow_pos' n
  have hr := pow_pos' (64 - n)
  obtain ⟨t1, t2⟩ := u64_half (lo a) (64 - n) (by omega) (lo_u a)
  rw [show 64 - (64 - n) = n by omega] at t1 t2
  generalize (2 : Int) ^ n = P at *
  generalize (2 : Int) ^ (64 - n) = R at *
  have h1 := Int.emod_nonneg (hi a) (show P ≠ 0 by omega)
  have h2 := Int.emod_lt_of_pos (hi a) hp
  have h3 := Int.mul_ediv_add_emod (hi a) P
  refine ⟨_, ⟨?_, ?_⟩, ?_, rfl⟩
  · have := Int.mul_nonneg h1 (show 0 ≤ R by omega); omega
  · have : (hi a % P) * R ≤ (P - 1) * R := Int.mul_le_mul_of_nonneg_right (by omega) (by omega)
    have : (P - 1) * R = P * R - R := by rw [Int.sub_mul, Int.one_mul]
    omega
  · have e : a = P * ((hi a / P) * 18446744073709551616 + (hi a % P) * R) + lo a := by
      conv => lhs; rw [← hi_lo a]
      conv => lhs; rw [← h3]
      rw [Int.add_mul, Int.mul_add, ← Int.mul_assoc, ← Int.mul_assoc, Int.mul_comm P (hi a % P), Int.mul_assoc (hi a % P), hpr]
    conv => lhs; rw [e]
    rw [Int.add_comm, Int.add_mul_ediv_left _ _ (by omega)]; omega
theorem shr_hi (a : Int) (n : Nat) (hn : n ≤ 64) : hi (a / 2 ^ n) = hi a / 2 ^ n := by
  obtain ⟨y, hy, e1, _⟩ := shr_parts a n hn
  rw [e1, mk_hi hy]
theorem shr_lo (a : Int) (n : Nat) (hn : n ≤ 64) : lo (a / 2 ^ n) = bits .or .u64 (lo a / 2 ^ n) (IntKind.u64.wrap (IntKind.u64.wrap (hi a) * 2 ^ (64 - n))) := by
  obtain ⟨y, hy, e1, e2⟩ := shr_parts a n hn
  obtain ⟨t1, t2⟩ := u64_half (lo a) (64 - n) (by omega) (lo_u a)
  rw [show 64 - (64 - n) = n by omega] at t1 t2
  rw [e1, mk_lo hy, or_comm64]
  have hpr := pow_split n hn
  have hp := pow_pos' n
  have hr := pow_pos' (64 - n)
  have h1 := Int.emod_nonneg (hi a) (show (2 : Int) ^ n ≠ 0 by omega)
  have h2 := Int.emod_lt_of_pos (hi a) hp
  have ew : IntKind.u64.wrap (IntKind.u64.wrap (hi a) * 2 ^ (64 - n)) = (hi a % 2 ^ n) * 2 ^ (64 - n) := by
    rw [u64w, u64w]
    have h3 := Int.mul_ediv_add_emod (hi a % 18446744073709551616) (2 ^ n)
    have h4 : hi a % 18446744073709551616 % 2 ^ n = hi a % 2 ^ n := Int.emod_emod_of_dvd _ ⟨2 ^ (64 - n), hpr.symm⟩
    rw [h4] at h3
    generalize (2 : Int) ^ n = P at *
    generalize (2 : Int) ^ (64 - n) = R at *
    rw [← h3, Int.add_mul, Int.mul_comm P, Int.mul_assoc, hpr]
    have h5 : (hi a % P) * R ≤ (P - 1) * R := Int.mul_le_mul_of_nonneg_right (by omega) (by omega)
    have h6 : (P - 1) * R = P * R - R := by rw [Int.sub_mul, Int.one_mul]
    have h7 := Int.mul_nonneg h1 (show 0 ≤ R by omega)
    omega
  rw [ew, or_u64 _ _ (64 - n) (by omega) (Int.mul_emod_left _ _) t1 t2, ← e2]
  unfold U64 at hy; omega
theorem shr_big (a : Int) (n : Nat) (h : In128 a) : In64 (hi a / 2 ^ n) ∧ a / 2 ^ (n + 64) = hi a / 2 ^ n := by
  have e : a / 2 ^ (n + 64) = hi a / 2 ^ n := by
    rw [Int.pow_add, p64, Int.mul_comm, ← Int.ediv_ediv_of_nonneg (by omega)]; rfl
  refine ⟨?_, e⟩
  have hp := pow_pos' n
  have h1 : (1 : Int) ≤ 2 ^ n := by omega
  obtain ⟨h2, h3⟩ := hi_in h
  refine ⟨?_, ?_⟩
  · rw [Int.le_ediv_iff_mul_le hp]
    have : (9223372036854775808 : Int) * 1 ≤ 9223372036854775808 * 2 ^ n := Int.mul_le_mul_of_nonneg_left h1 (by omega)
    omega
  · rw [Int.ediv_lt_iff_lt_mul hp]
    have : (9223372036854775808 : Int) * 1 ≤ 9223372036854775808 * 2 ^ n := Int.mul_le_mul_of_nonneg_left h1 (by omega)
    omega
end Go.Proofs.Ytjhepjmggenadaa
