import Derived.RowKit
import Derived.Lib.Mul64
import Derived.WalkKit
import Derived.Deep.DrawnRows
import Derived.Deep.QuietTactic
import Derived.BigQuiet
/- Whole numbers behind api.Wide: plain arithmetic, no program. -/
namespace Go.Proofs.Ytikjomekhnkgcaa
open Go.RowKit

def hi (n : Int) : Int := n / 18446744073709551616
def lo (n : Int) : Int := n % 18446744073709551616
/-- The numbers of 128 bits. -/
def In128 (n : Int) : Prop := -170141183460469231731687303715884105728 ≤ n ∧ n < 170141183460469231731687303715884105728
def In64 (n : Int) : Prop := -9223372036854775808 ≤ n ∧ n < 9223372036854775808
def U64 (n : Int) : Prop := 0 ≤ n ∧ n < 18446744073709551616
/-- Wrapped round to 128 bits. -/
def w128 (n : Int) : Int := (n + 170141183460469231731687303715884105728) % 340282366920938463463374607431768211456 - 170141183460469231731687303715884105728
/-- A wide number. -/
def WV (n : Int) : Value := .agg #[.int .i64 (hi n), .int .u64 (lo n)]

theorem w128_in (n : Int) : In128 (w128 n) := by unfold In128 w128; omega
theorem w128_id {n : Int} (h : In128 n) : w128 n = n := by unfold In128 at h; unfold w128; omega
theorem hi_lo (n : Int) : hi n * 18446744073709551616 + lo n = n := by unfold hi lo; omega
theorem lo_u (n : Int) : U64 (lo n) := by unfold U64 lo; omega
theorem hi_in {n : Int} (h : In128 n) : In64 (hi n) := by unfold In128 at h; unfold In64 hi; omega
theorem mk_hi {h l : Int} (hl : U64 l) : hi (h * 18446744073709551616 + l) = h := by unfold U64 at hl; unfold hi; omega
theorem mk_lo {h l : Int} (hl : U64 l) : lo (h * 18446744073709551616 + l) = l := by unfold U64 at hl; unfold lo; omega
theorem mk_in {h l : Int} (hh : In64 h) (hl : U64 l) : In128 (h * 18446744073709551616 + l) := by unfold In64 at hh; unfold U64 at hl; unfold In128; omega
theorem in64_wide {n : Int} (h : In64 n) : In128 n := by unfold In64 at h; unfold In128; omega
theorem eq_of_parts {m n : Int} (h1 : hi m = hi n) (h2 : lo m = lo n) : m = n := by rw [← hi_lo m, ← hi_lo n, h1, h2]
theorem WV_zero : WV 0 = .agg #[.int .i64 0, .int .u64 0] := by unfold WV hi lo; simp

/-! ### what each function's words come to -/
theorem of_hi {n : Int} (h : In64 n) : hi n = n / 9223372036854775808 := by unfold In64 at h; unfold hi; omega
theorem of_lo (n : Int) : lo n = n % 18446744073709551616 := rfl

theorem add_lo (a b : Int) : lo (w128 (a + b)) = (lo a + lo b) % 18446744073709551616 := by unfold lo w128; omega
theorem add_hi (a b : Int) : hi (w128 (a + b)) = wrap64 ((hi a % 18446744073709551616 + hi b % 18446744073709551616 + (lo a + lo b) / 18446744073709551616) % 18446744073709551616) := by
  unfold hi lo w128 wrap64; omega
def bor (x y b : Int) : Int := if x < y + b then 1 else 0
theorem bor_01 (x y b : Int) : 0 ≤ bor x y b ∧ bor x y b ≤ 1 := by unfold bor; split <;> omega
theorem sub_lo (a b : Int) : lo (w128 (a - b)) = (lo a - lo b) % 18446744073709551616 := by unfold lo w128; omega
theorem sub_hi (a b : Int) : hi (w128 (a - b)) = wrap64 ((hi a % 18446744073709551616 - hi b % 18446744073709551616 - bor (lo a) (lo b) 0) % 18446744073709551616) := by
  unfold bor hi lo w128 wrap64; split <;> omega

end Go.Proofs.Ytikjomekhnkgcaa
/- Shifts of wide numbers: plain arithmetic, no program. -/
namespace Go.Proofs.Ytikjomekhnkgcaa
open Go.RowKit

theorem u64w (x : Int) : IntKind.u64.wrap x = x % 18446744073709551616 := IntKind.wrap_u64 x

theorem p64 : (2 : Int) ^ 64 = 18446744073709551616 := by decide
theorem pow_pos' (n : Nat) : (0 : Int) < 2 ^ n := Int.pow_pos (by decide)
theorem pow_split (n : Nat) (h : n ≤ 64) : (2 : Int) ^ n * 2 ^ (64 - n) = 18446744073709551616 := by
  rw [← Int.pow_add, show n + (64 - n) = 64 by omega, p64]

/-- Two words of 64 bits without a bit in common. -/
theorem bv_or (x y : Int) (n : Nat) (hn : n ≤ 64) (hx : x % 2 ^ n = 0) (hy0 : 0 ≤ y) (hy : y < 2 ^ n) :
    (((BitVec.ofInt 64 x ||| BitVec.ofInt 64 y).toNat : Nat) : Int) = (x + y) % 18446744073709551616 := by
  have hpr := pow_split n hn
  have hp := pow_pos' n
  have hr := pow_pos' (64 - n)
  generalize hP : (2 : Int) ^ n = P at *
  generalize (2 : Int) ^ (64 - n) = R at *
  obtain ⟨q, rfl⟩ : ∃ q, x = P * q := ⟨x / P, by have := Int.mul_ediv_add_emod x P; omega⟩
  have hq : (P * q) % 18446744073709551616 = P * (q % R) := by rw [← hpr, Int.mul_emod_mul_of_pos q R hp]
  have hq0 : 0 ≤ q % R := Int.emod_nonneg _ (by omega)
  have hq1 : q % R < R := Int.emod_lt_of_pos _ hr
  have hyM : y < 18446744073709551616 := by
    have : P * 1 ≤ P * R := Int.mul_le_mul_of_nonneg_left (by omega) (by omega)
    omega
  obtain ⟨a, ha⟩ := Int.eq_ofNat_of_zero_le hq0
  obtain ⟨b, rfl⟩ := Int.eq_ofNat_of_zero_le hy0
  have hPn : P = ((2 ^ n : Nat) : Int) := by rw [← hP]; push_cast; rfl
  have e1 : (BitVec.ofInt 64 (P * q)).toNat = 2 ^ n * a := by
    rw [BitVec.toNat_ofInt]
    have : (P * q) % ((2 ^ 64 : Nat) : Int) = ((2 ^ n * a : Nat) : Int) := by
      have : ((2 ^ 64 : Nat) : Int) = 18446744073709551616 := by decide
      rw [this, hq, ha, hPn]; push_cast; rfl
    rw [this]; rfl
  have e2 : (BitVec.ofInt 64 (b : Int)).toNat = b := by
    rw [BitVec.toNat_ofInt]
    have h2 : ((2 ^ 64 : Nat) : Int) = 18446744073709551616 := by decide
    rw [h2]; omega
  have hb : b < 2 ^ n := by rw [hPn] at hy; exact_mod_cast hy
  rw [BitVec.toNat_or, e1, e2, ← Nat.two_pow_add_eq_or_of_lt hb]
  have h3 : (P * q + (b : Int)) % 18446744073709551616 = P * (q % R) + b := by
    have h4 : P * q = P * (q % R) + 18446744073709551616 * (q / R) := by
      rw [← hpr, Int.mul_assoc, ← Int.mul_add, Int.emod_add_mul_ediv]
    have h5 : P * (q % R) + b < 18446744073709551616 := by
      have : P * (q % R) ≤ P * (R - 1) := Int.mul_le_mul_of_nonneg_left (by omega) (by omega)
      have : P * (R - 1) = P * R - P := by rw [Int.mul_sub, Int.mul_one]
      omega
    have h6 : 0 ≤ P * (q % R) := Int.mul_nonneg (by omega) hq0
    rw [h4, show P * (q % R) + 18446744073709551616 * (q / R) + (b : Int) = (P * (q % R) + b) + 18446744073709551616 * (q / R) by omega, Int.add_mul_emod_self_left]
    exact Int.emod_eq_of_lt (by omega) h5
  rw [h3, ha, hPn]; push_cast; rfl

theorem or_i64 (x y : Int) (n : Nat) (hn : n ≤ 64) (hx : x % 2 ^ n = 0) (hy0 : 0 ≤ y) (hy : y < 2 ^ n) : bits .or .i64 x y = wrap64 (x + y) := by
  show IntKind.i64.wrap ((BitVec.ofInt 64 x ||| BitVec.ofInt 64 y).toNat : Int) = _
  rw [bv_or x y n hn hx hy0 hy, IntKind.wrap_i64]; unfold wrap64; omega
theorem or_u64 (x y : Int) (n : Nat) (hn : n ≤ 64) (hx : x % 2 ^ n = 0) (hy0 : 0 ≤ y) (hy : y < 2 ^ n) : bits .or .u64 x y = (x + y) % 18446744073709551616 := by
  show IntKind.u64.wrap ((BitVec.ofInt 64 x ||| BitVec.ofInt 64 y).toNat : Int) = _
  rw [bv_or x y n hn hx hy0 hy, IntKind.wrap_u64]; omega
theorem or_comm64 (k : IntKind) (x y : Int) : bits .or k x y = bits .or k y x := by
  show k.wrap ((BitVec.ofInt k.bits x ||| BitVec.ofInt k.bits y).toNat : Int) = k.wrap ((BitVec.ofInt k.bits y ||| BitVec.ofInt k.bits x).toNat : Int)
  rw [BitVec.or_comm]

theorem wrap64_mod (x : Int) (n : Nat) (hn : n ≤ 64) : wrap64 x % 2 ^ n = x % 2 ^ n := by
  have hpr := pow_split n hn
  have : wrap64 x = x + 2 ^ n * (2 ^ (64 - n) * (-((x + 9223372036854775808) / 18446744073709551616))) := by
    rw [← Int.mul_assoc, hpr]; unfold wrap64; omega
  rw [this, Int.add_mul_emod_self_left]
theorem hi_of (x y : Int) (hy : U64 y) : hi (w128 (x * 18446744073709551616 + y)) = wrap64 x := by unfold U64 at hy; unfold hi w128 wrap64; omega
theorem lo_of (x y : Int) (hy : U64 y) : lo (w128 (x * 18446744073709551616 + y)) = y := by unfold U64 at hy; unfold lo w128; omega
theorem u64_half (l : Int) (n : Nat) (hn : n ≤ 64) (hl : U64 l) : 0 ≤ l / 2 ^ (64 - n) ∧ l / 2 ^ (64 - n) < 2 ^ n := by
  have hpr := pow_split n hn
  have hr := pow_pos' (64 - n)
  exact ⟨Int.ediv_nonneg hl.1 (by omega), Int.ediv_lt_of_lt_mul hr (by rw [hpr]; exact hl.2)⟩
theorem pow_le63 (n : Nat) (hn : n < 64) : (2 : Int) ^ n ≤ 9223372036854775808 := by
  have := pow_split n (by omega)
  have h2 : (2 : Int) ≤ 2 ^ (64 - n) := by
    have : (2 : Int) ^ (64 - n) = 2 ^ (64 - n - 1) * 2 := by rw [← Int.pow_succ]; congr 1; omega
    have := pow_pos' (64 - n - 1); omega
  have := pow_pos' n
  have : (2 : Int) ^ n * 2 ≤ 2 ^ n * 2 ^ (64 - n) := Int.mul_le_mul_of_nonneg_left h2 (by omega)
  omega

/-- The low word of a product by 2^n. -/
theorem shl_parts (a : Int) (n : Nat) (hn : n ≤ 64) : ∃ y, U64 y ∧ a * 2 ^ n = (hi a * 2 ^ n + lo a / 2 ^ (64 - n)) * 18446744073709551616 + y ∧ (lo a * 2 ^ n) % 18446744073709551616 = y := by
  have hpr := pow_split n hn
  have hp := pow_pos' n
  have hr := pow_pos' (64 - n)
  generalize (2 : Int) ^ n = P at *
  generalize (2 : Int) ^ (64 - n) = R at *
  have h1 := Int.emod_nonneg (lo a) (show R ≠ 0 by omega)
  have h2 := Int.emod_lt_of_pos (lo a) hr
  have h3 := Int.mul_ediv_add_emod (lo a) R
  have h4 : lo a * P = (lo a / R) * 18446744073709551616 + (lo a % R) * P := by
    conv => lhs; rw [← h3]
    rw [Int.add_mul, ← hpr, Int.mul_comm P R, ← Int.mul_assoc, Int.mul_comm (lo a / R) R]
  have h5 : (lo a % R) * P < 18446744073709551616 := by
    have : (lo a % R) * P ≤ (R - 1) * P := Int.mul_le_mul_of_nonneg_right (by omega) (by omega)
    have : (R - 1) * P = P * R - P := by rw [Int.sub_mul, Int.one_mul, Int.mul_comm]
    omega
  have h6 : 0 ≤ (lo a % R) * P := Int.mul_nonneg h1 (by omega)
  refine ⟨(lo a % R) * P, ⟨h6, h5⟩, ?_, by omega⟩
  conv => lhs; rw [← hi_lo a]
  rw [Int.add_mul, h4, Int.add_mul, Int.mul_assoc, Int.mul_comm 18446744073709551616 P, ← Int.mul_assoc]
  omega
theorem shl_lo (a : Int) (n : Nat) (hn : n ≤ 64) : lo (w128 (a * 2 ^ n)) = IntKind.u64.wrap (lo a * 2 ^ n) := by
  obtain ⟨y, hy, e1, e2⟩ := shl_parts a n hn
  rw [e1, lo_of _ _ hy, u64w, e2]
theorem shl_hi (a : Int) (n : Nat) (hn : n < 64) : hi (w128 (a * 2 ^ n)) = bits .or .i64 (wrap64 (hi a * 2 ^ n)) (wrap64 (lo a / 2 ^ (64 - n))) := by
  obtain ⟨y, hy, e1, e2⟩ := shl_parts a n (by omega)
  obtain ⟨t1, t2⟩ := u64_half (lo a) n (by omega) (lo_u a)
  have h63 := pow_le63 n hn
  rw [e1, hi_of _ _ hy]
  have e3 : wrap64 (lo a / 2 ^ (64 - n)) = lo a / 2 ^ (64 - n) := by
    generalize (2 : Int) ^ n = P at *
    generalize lo a / 2 ^ (64 - n) = t at *
    unfold wrap64; omega
  rw [e3, or_i64 _ _ n (by omega) (by rw [wrap64_mod _ n (by omega)]; exact Int.mul_emod_left _ _) t1 t2]
  generalize hi a * 2 ^ n = u
  generalize lo a / 2 ^ (64 - n) = t
  unfold wrap64; omega
/-- By 64 bits and more. -/
theorem shl_big_hi (a : Int) (n : Nat) : hi (w128 (a * 2 ^ (n + 64))) = wrap64 (IntKind.u64.wrap (lo a * 2 ^ n)) ∧ lo (w128 (a * 2 ^ (n + 64))) = 0 := by
  have e : a * 2 ^ (n + 64) = (a * 2 ^ n) * 18446744073709551616 + 0 := by rw [Int.pow_add, p64, Int.mul_assoc]; omega
  have h0 : U64 0 := ⟨by omega, by omega⟩
  rw [e, hi_of _ _ h0, lo_of _ _ h0]
  refine ⟨?_, rfl⟩
  have : a * 2 ^ n = hi a * 2 ^ n * 18446744073709551616 + lo a * 2 ^ n := by
    conv => lhs; rw [← hi_lo a]
    rw [Int.add_mul, Int.mul_assoc, Int.mul_comm 18446744073709551616, ← Int.mul_assoc]
  rw [this, u64w]
  generalize hi a * 2 ^ n = u
  generalize lo a * 2 ^ n = v
  unfold wrap64; omega

/-! ### to the right -/
theorem shr_in (a : Int) (n : Nat) (h : In128 a) : In128 (a / 2 ^ n) := by
  have hp := pow_pos' n
  have h1 : (1 : Int) ≤ 2 ^ n := by omega
  obtain ⟨h2, h3⟩ := h
  refine ⟨?_, ?_⟩
  · rw [Int.le_ediv_iff_mul_le hp]
    have : (170141183460469231731687303715884105728 : Int) * 1 ≤ 170141183460469231731687303715884105728 * 2 ^ n := Int.mul_le_mul_of_nonneg_left h1 (by omega)
    omega
  · rw [Int.ediv_lt_iff_lt_mul hp]
    have : (170141183460469231731687303715884105728 : Int) * 1 ≤ 170141183460469231731687303715884105728 * 2 ^ n := Int.mul_le_mul_of_nonneg_left h1 (by omega)
    omega
theorem shr_parts (a : Int) (n : Nat) (hn : n ≤ 64) : ∃ y, U64 y ∧ a / 2 ^ n = (hi a / 2 ^ n) * 18446744073709551616 + y ∧ y = (hi a % 2 ^ n) * 2 ^ (64 - n) + lo a / 2 ^ n := by
  have hpr := pow_split n hn
  have hp := pow_pos' n
  have hr := pow_pos' (64 - n)
  obtain ⟨t1, t2⟩ := u64_half (lo a) (64 - n) (by omega) (lo_u a)
  rw [show 64 - (64 - n) = n by omega] at t1 t2
  generalize (2 : Int) ^ n = P at *
  generalize (2 : Int) ^ (64 - n) = R at *
  have h1 := Int.emod_nonneg (hi a) (show P ≠ 0 by omega)
  have h2 := Int.emod_lt_of_pos (hi a) hp
  have h3 := Int.mul_ediv_add_emod (hi a) P
  refine ⟨_, ⟨?_, ?_⟩, ?_, rfl⟩
  · have := Int.mul_nonneg h1 (show 0 ≤ R by omega); omega
  · have : (hi a % P) * R ≤ (P - 1) * R := Int.mul_le_mul_of_nonneg_right (by omega) (by omega)
    have : (P - 1) * R = P * R - R := by rw [Int.sub_mul, Int.one_mul]
    omega
  · have e : a = P * ((hi a / P) * 18446744073709551616 + (hi a % P) * R) + lo a := by
      conv => lhs; rw [← hi_lo a]
      conv => lhs; rw [← h3]
      rw [Int.add_mul, Int.mul_add, ← Int.mul_assoc, ← Int.mul_assoc, Int.mul_comm P (hi a % P), Int.mul_assoc (hi a % P), hpr]
    conv => lhs; rw [e]
    rw [Int.add_comm, Int.add_mul_ediv_left _ _ (by omega)]; omega
theorem shr_hi (a : Int) (n : Nat) (hn : n ≤ 64) : hi (a / 2 ^ n) = hi a / 2 ^ n := by
  obtain ⟨y, hy, e1, _⟩ := shr_parts a n hn
  rw [e1, mk_hi hy]
theorem shr_lo (a : Int) (n : Nat) (hn : n ≤ 64) : lo (a / 2 ^ n) = bits .or .u64 (lo a / 2 ^ n) (IntKind.u64.wrap (IntKind.u64.wrap (hi a) * 2 ^ (64 - n))) := by
  obtain ⟨y, hy, e1, e2⟩ := shr_parts a n hn
  obtain ⟨t1, t2⟩ := u64_half (lo a) (64 - n) (by omega) (lo_u a)
  rw [show 64 - (64 - n) = n by omega] at t1 t2
  rw [e1, mk_lo hy, or_comm64]
  have hpr := pow_split n hn
  have hp := pow_pos' n
  have hr := pow_pos' (64 - n)
  have h1 := Int.emod_nonneg (hi a) (show (2 : Int) ^ n ≠ 0 by omega)
  have h2 := Int.emod_lt_of_pos (hi a) hp
  have ew : IntKind.u64.wrap (IntKind.u64.wrap (hi a) * 2 ^ (64 - n)) = (hi a % 2 ^ n) * 2 ^ (64 - n) := by
    rw [u64w, u64w]
    have h3 := Int.mul_ediv_add_emod (hi a % 18446744073709551616) (2 ^ n)
    have h4 : hi a % 18446744073709551616 % 2 ^ n = hi a % 2 ^ n := Int.emod_emod_of_dvd _ ⟨2 ^ (64 - n), hpr.symm⟩
    rw [h4] at h3
    generalize (2 : Int) ^ n = P at *
    generalize (2 : Int) ^ (64 - n) = R at *
    rw [← h3, Int.add_mul, Int.mul_comm P, Int.mul_assoc, hpr]
    have h5 : (hi a % P) * R ≤ (P - 1) * R := Int.mul_le_mul_of_nonneg_right (by omega) (by omega)
    have h6 : (P - 1) * R = P * R - R := by rw [Int.sub_mul, Int.one_mul]
    have h7 := Int.mul_nonneg h1 (show 0 ≤ R by omega)
    omega
  rw [ew, or_u64 _ _ (64 - n) (by omega) (Int.mul_emod_left _ _) t1 t2, ← e2]
  unfold U64 at hy; omega
theorem shr_big (a : Int) (n : Nat) (h : In128 a) : In64 (hi a / 2 ^ n) ∧ a / 2 ^ (n + 64) = hi a / 2 ^ n := by
  have e : a / 2 ^ (n + 64) = hi a / 2 ^ n := by
    rw [Int.pow_add, p64, Int.mul_comm, ← Int.ediv_ediv_of_nonneg (by omega)]; rfl
  refine ⟨?_, e⟩
  have hp := pow_pos' n
  have h1 : (1 : Int) ≤ 2 ^ n := by omega
  obtain ⟨h2, h3⟩ := hi_in h
  refine ⟨?_, ?_⟩
  · rw [Int.le_ediv_iff_mul_le hp]
    have : (9223372036854775808 : Int) * 1 ≤ 9223372036854775808 * 2 ^ n := Int.mul_le_mul_of_nonneg_left h1 (by omega)
    omega
  · rw [Int.ediv_lt_iff_lt_mul hp]
    have : (9223372036854775808 : Int) * 1 ≤ 9223372036854775808 * 2 ^ n := Int.mul_le_mul_of_nonneg_left h1 (by omega)
    omega
end Go.Proofs.Ytikjomekhnkgcaa
/- Small words for worlds: what a callee leaves as it was; a region that draws its order. -/
namespace Go.Proofs.Ytikjomekhnkgcaa
open Go.RowKit

theorem bcell {W w1 : World} (hb : Below W.heap.size W w1) : (∀ b o, b < W.heap.size → w1.cell? ⟨b, o, none⟩ = W.cell? ⟨b, o, none⟩) ∧
    (∀ b o, b < W.heap.size → w1.frozen? ⟨b, o, none⟩ = W.frozen? ⟨b, o, none⟩) ∧ W.heap.size ≤ w1.heap.size :=
  ⟨fun b o h => hb.cell (p := ⟨b, o, none⟩) h, fun b o h => hb.frozen (p := ⟨b, o, none⟩) h, hb.size⟩

/-! ### a world that is as an elder one was, for a region that draws its order -/
theorem at_world {P : Program} {c : Code} {Q : Exit → Act → World → Prop} {a : Act} {w : World} (h : ∀ W0, W0 = w → Code.wp P c Q a W0) : Code.wp P c Q a w := h w rfl
section
variable {W0 w w1 : World}
theorem sb_of (h : Below W0.heap.size W0 w) : Below W0.heap.size W0 w ∧ ∀ b o, b < W0.heap.size → w.cell? ⟨b, o, none⟩ = W0.cell? ⟨b, o, none⟩ :=
  ⟨h, fun b o hb => h.cell (p := ⟨b, o, none⟩) hb⟩
theorem sb_drew (W0 : World) : Below W0.heap.size W0 W0.drew ∧ ∀ b o, b < W0.heap.size → W0.drew.cell? ⟨b, o, none⟩ = W0.cell? ⟨b, o, none⟩ := sb_of (Below.refl _ _).drew
theorem sb_below (h : Below W0.heap.size W0 w ∧ ∀ b o, b < W0.heap.size → w.cell? ⟨b, o, none⟩ = W0.cell? ⟨b, o, none⟩) (hb : Below w.heap.size w w1) : Below W0.heap.size W0 w1 := h.1.trans (hb.mono h.1.size)
theorem sb_call (h : Below W0.heap.size W0 w ∧ ∀ b o, b < W0.heap.size → w.cell? ⟨b, o, none⟩ = W0.cell? ⟨b, o, none⟩) (hb : Below w.heap.size w w1) :
    Below W0.heap.size W0 w1 ∧ ∀ b o, b < W0.heap.size → w1.cell? ⟨b, o, none⟩ = W0.cell? ⟨b, o, none⟩ := sb_of (sb_below h hb)
theorem sb_alloc (h : Below W0.heap.size W0 w ∧ ∀ b o, b < W0.heap.size → w.cell? ⟨b, o, none⟩ = W0.cell? ⟨b, o, none⟩) (o : Obj) :
    Below W0.heap.size W0 (w.alloc o) ∧ ∀ b i, b < W0.heap.size → (w.alloc o).cell? ⟨b, i, none⟩ = W0.cell? ⟨b, i, none⟩ := sb_of (h.1.alloc h.1.size o)
theorem sb_set (h : Below W0.heap.size W0 w ∧ ∀ b o, b < W0.heap.size → w.cell? ⟨b, o, none⟩ = W0.cell? ⟨b, o, none⟩) {p : Addr} (hp : W0.heap.size ≤ p.block) (u : Value) :
    Below W0.heap.size W0 (w.setCell p u) ∧ ∀ b i, b < W0.heap.size → (w.setCell p u).cell? ⟨b, i, none⟩ = W0.cell? ⟨b, i, none⟩ := sb_of (h.1.setCell hp u)
theorem sb_set2 (h : Below W0.heap.size W0 w ∧ ∀ b o, b < W0.heap.size → w.cell? ⟨b, o, none⟩ = W0.cell? ⟨b, o, none⟩) {p q : Addr} (hp : W0.heap.size ≤ p.block) (hq : W0.heap.size ≤ q.block) (u v : Value) :
    Below W0.heap.size W0 ((w.setCell p u).setCell q v) ∧ ∀ b i, b < W0.heap.size → ((w.setCell p u).setCell q v).cell? ⟨b, i, none⟩ = W0.cell? ⟨b, i, none⟩ := sb_of ((h.1.setCell hp u).setCell hq v)
end

theorem newest_at (w : World) (o : Obj) {g : Nat} (h : g = w.heap.size) : (w.alloc o).heap[g]? = some o := by subst h; exact heap_alloc_new w o

/-! ### the same, but for one block of n cells that is written -/
def cv (w : World) (x i : Nat) : Value := (w.cell? ⟨x, i, none⟩).getD undef
structure Bx (x n : Nat) (w w' : World) : Prop where
  os : w'.os = w.os
  tape : w'.tape = w.tape
  output : w'.output = w.output
  size : w.heap.size ≤ w'.heap.size
  block : ∀ k, k < w.heap.size → k ≠ x → w'.heap[k]? = w.heap[k]?
  here : ∃ cs t, w'.heap[x]? = some (.cells cs t (0, 0)) ∧ n ≤ cs.size

section
variable {x n : Nat} {W0 w w1 : World}
theorem Bx.lt (h : Bx x n W0 w) : x < w.heap.size := by
  obtain ⟨cs, t, e, _⟩ := h.here
  rcases Nat.lt_or_ge x w.heap.size with hlt | hge
  · exact hlt
  · rw [Array.getElem?_eq_none hge] at e; cases e
theorem Bx.refl {cs : Array Value} {t : TypeId} (h : w.heap[x]? = some (.cells cs t (0, 0))) (hn : n ≤ cs.size) : Bx x n w w := ⟨rfl, rfl, rfl, Nat.le_refl _, fun _ _ _ => rfl, cs, t, h, hn⟩
theorem Bx.drew (h : Bx x n W0 w) : Bx x n W0 w.drew := ⟨h.os, h.tape, h.output, h.size, h.block, h.here⟩
theorem Bx.call (h : Bx x n W0 w) (hb : Below w.heap.size w w1) : Bx x n W0 w1 := by
  obtain ⟨cs, t, e, hc⟩ := h.here
  exact ⟨hb.os.trans h.os, hb.tape.trans h.tape, hb.output.trans h.output, Nat.le_trans h.size hb.size,
    fun k hk hx => (hb.block k (Nat.lt_of_lt_of_le hk h.size)).trans (h.block k hk hx), cs, t, (hb.block x h.lt).trans e, hc⟩
theorem Bx.alloc (h : Bx x n W0 w) (o : Obj) : Bx x n W0 (w.alloc o) := h.call ((Below.refl _ _).alloc (Nat.le_refl _) o)
theorem Bx.set (h : Bx x n W0 w) {p : Addr} (hp : p.block = x ∨ W0.heap.size ≤ p.block) (u : Value) : Bx x n W0 (w.setCell p u) := by
  obtain ⟨cs, t, e, hc⟩ := h.here
  refine ⟨h.os, h.tape, h.output, by simpa [World.setCell] using h.size, fun k hk hx => ?_, ?_⟩
  · rw [Below.heap_setCell _ _ _ _ (by omega)]
    exact h.block k hk hx
  · by_cases hpx : p.block = x
    · refine ⟨if p.spot.isSome then cs else cs.setIfInBounds p.off u, t, ?_, by split <;> simpa using hc⟩
      simp [World.setCell, Array.getElem?_modify, hpx, e]
    · exact ⟨cs, t, by rw [Below.heap_setCell _ _ _ _ (by omega)]; exact e, hc⟩
theorem Bx.cell (h : Bx x n W0 w) (b o : Nat) (hb : b < W0.heap.size) (hx : b ≠ x) : w.cell? ⟨b, o, none⟩ = W0.cell? ⟨b, o, none⟩ := World.cell?_of_block (w := W0) (h.block b hb hx)
theorem Bx.own (h : Bx x n W0 w) (i : Nat) (hi : i < n) : w.cell? ⟨x, i, none⟩ = some (cv w x i) := by
  obtain ⟨cs, t, e, hc⟩ := h.here
  have : w.cell? ⟨x, i, none⟩ = cs[i]? := by simp [World.cell?, e]
  unfold cv
  rw [this, Array.getElem?_eq_getElem (by omega)]
  rfl
theorem Bx.free (h : Bx x n W0 w) (i : Nat) : w.frozen? ⟨x, i, none⟩ = false := by
  obtain ⟨cs, t, e, hc⟩ := h.here
  simp [World.frozen?, e]
theorem Bx.below (h : Bx x n W0 w) {B : Nat} (hB : B ≤ x) (hW : B ≤ W0.heap.size) : Below B W0 w := ⟨h.os, h.tape, h.output, h.size, fun k hk => h.block k (by omega) (by omega)⟩
theorem sx_of (h : Bx x n W0 w) : Bx x n W0 w ∧ (∀ b o, b < W0.heap.size → b ≠ x → w.cell? ⟨b, o, none⟩ = W0.cell? ⟨b, o, none⟩) ∧ (∀ i, i < n → w.cell? ⟨x, i, none⟩ = some (cv w x i)) ∧ (∀ i, w.frozen? ⟨x, i, none⟩ = false) :=
  ⟨h, h.cell, h.own, h.free⟩
end
end Go.Proofs.Ytikjomekhnkgcaa
/- Long numbers: plain arithmetic, no program. -/
namespace Go.Proofs.Ytikjomekhnkgcaa
open Go.RowKit

def In192 (n : Int) : Prop := -3138550867693340381917894711603833208051177722232017256448 ≤ n ∧ n < 3138550867693340381917894711603833208051177722232017256448
def w192 (n : Int) : Int := (n + 3138550867693340381917894711603833208051177722232017256448) % 6277101735386680763835789423207666416102355444464034512896 - 3138550867693340381917894711603833208051177722232017256448
/-- The words of a number of 192 bits: the lowest, the middle one, the highest; and the highest as a signed one. -/
def q0 (n : Int) : Int := n % 18446744073709551616
def q1 (n : Int) : Int := n / 18446744073709551616 % 18446744073709551616
def q2 (n : Int) : Int := n / 18446744073709551616 / 18446744073709551616 % 18446744073709551616
def tp (n : Int) : Int := n / 18446744073709551616 / 18446744073709551616

theorem w192_in (n : Int) : In192 (w192 n) := by unfold In192 w192; omega
theorem w192_id {n : Int} (h : In192 n) : w192 n = n := by unfold In192 at h; unfold w192; omega
theorem q0_u (n : Int) : U64 (q0 n) := by unfold U64 q0; omega
theorem q1_u (n : Int) : U64 (q1 n) := by unfold U64 q1; omega
theorem q2_u (n : Int) : U64 (q2 n) := by unfold U64 q2; omega
theorem tp_in {n : Int} (h : In192 n) : In64 (tp n) := by unfold In192 at h; unfold In64 tp; omega
theorem tp_q2 (n : Int) : IntKind.u64.wrap (tp n) = q2 n := by rw [u64w]; rfl
theorem q_w192 (n : Int) : q0 (w192 n) = q0 n ∧ q1 (w192 n) = q1 n ∧ q2 (w192 n) = q2 n := by unfold q0 q1 q2 w192; omega
theorem tp_w192 (n : Int) : tp (w192 n) = wrap64 (q2 n) := by unfold tp w192 wrap64 q2; omega
theorem q_sum (n : Int) : tp n * 340282366920938463463374607431768211456 + q1 n * 18446744073709551616 + q0 n = n := by unfold tp q1 q0; omega
theorem mk_q {t m l : Int} (hm : U64 m) (hl : U64 l) : tp (t * 340282366920938463463374607431768211456 + m * 18446744073709551616 + l) = t ∧
    q1 (t * 340282366920938463463374607431768211456 + m * 18446744073709551616 + l) = m ∧ q0 (t * 340282366920938463463374607431768211456 + m * 18446744073709551616 + l) = l := by
  unfold U64 at hm hl; unfold tp q1 q0; omega
theorem mk_in192 {t m l : Int} (ht : In64 t) (hm : U64 m) (hl : U64 l) : In192 (t * 340282366920938463463374607431768211456 + m * 18446744073709551616 + l) := by
  unfold U64 at hm hl; unfold In64 at ht; unfold In192; omega
theorem wide_192 {n : Int} (h : In128 n) : In192 n := by unfold In128 at h; unfold In192; omega

theorem add_q (a b : Int) : q0 (a + b) = (q0 a + q0 b) % 18446744073709551616 ∧
    q1 (a + b) = (q1 a + q1 b + (q0 a + q0 b) / 18446744073709551616) % 18446744073709551616 ∧
    q2 (a + b) = (q2 a + q2 b + (q1 a + q1 b + (q0 a + q0 b) / 18446744073709551616) / 18446744073709551616) % 18446744073709551616 := by
  unfold q0 q1 q2; omega
theorem below_q (n : Int) : (wrap64 (q2 n) < 0) ↔ w192 n < 0 := by unfold wrap64 q2 w192; omega

theorem ext_q {n : Int} (h : In128 n) : tp n = hi n / 9223372036854775808 ∧ q1 n = IntKind.u64.wrap (hi n) ∧ q0 n = lo n := by
  unfold In128 at h; rw [u64w]; unfold tp q1 q0 hi lo; omega

/-- Clamped. -/
theorem clamp_q0 {n : Int} (h : In192 n) : (q1 n = IntKind.u64.wrap (wrap64 (q0 n) / 9223372036854775808) ∧ q2 n = IntKind.u64.wrap (wrap64 (q0 n) / 9223372036854775808)) ↔
    (-9223372036854775808 ≤ n ∧ n ≤ 9223372036854775807) := by
  have hs : (q0 n < 9223372036854775808 ∧ wrap64 (q0 n) / 9223372036854775808 = 0) ∨ (9223372036854775808 ≤ q0 n ∧ wrap64 (q0 n) / 9223372036854775808 = -1) := by
    have := q0_u n; unfold U64 at this; unfold wrap64; omega
  have e := q_sum n
  have h1 := q1_u n
  have h0 := q0_u n
  have ht := tp_in h
  have e2 : q2 n = tp n % 18446744073709551616 := rfl
  rw [u64w]
  unfold U64 at h0 h1; unfold In64 at ht
  generalize q0 n = x at *
  generalize q1 n = y at *
  generalize q2 n = z at *
  generalize tp n = t at *
  rcases hs with ⟨h2, h3⟩ | ⟨h2, h3⟩ <;> rw [h3] <;> constructor <;> intro h4 <;> omega
theorem clamp_q1 {n : Int} (h : -9223372036854775808 ≤ n ∧ n ≤ 9223372036854775807) : wrap64 (q0 n) = n := by unfold wrap64 q0; omega

/-! ### down by 2^n -/
theorem p128 : (2 : Int) ^ 128 = 340282366920938463463374607431768211456 := by decide
theorem in192_down {a : Int} (h : In192 a) (n : Nat) : In192 (a / 2 ^ n) := by
  have hp := pow_pos' n
  have h1 : (1 : Int) ≤ 2 ^ n := by omega
  obtain ⟨h2, h3⟩ := h
  refine ⟨?_, ?_⟩
  · rw [Int.le_ediv_iff_mul_le hp]
    have : (3138550867693340381917894711603833208051177722232017256448 : Int) * 1 ≤ 3138550867693340381917894711603833208051177722232017256448 * 2 ^ n := Int.mul_le_mul_of_nonneg_left h1 (by omega)
    omega
  · rw [Int.ediv_lt_iff_lt_mul hp]
    have : (3138550867693340381917894711603833208051177722232017256448 : Int) * 1 ≤ 3138550867693340381917894711603833208051177722232017256448 * 2 ^ n := Int.mul_le_mul_of_nonneg_left h1 (by omega)
    omega
/-- The sign, in all words above. -/
def fillq (a : Int) : Int := IntKind.u64.wrap (wrap64 (q2 a) / 9223372036854775808)
theorem fill_q {a : Int} (h : In192 a) : fillq a = a / 18446744073709551616 / 18446744073709551616 / 18446744073709551616 % 18446744073709551616 := by
  unfold In192 at h; unfold fillq; rw [u64w]; unfold wrap64 q2; omega
theorem fill_u (a : Int) : U64 (fillq a) := by unfold fillq; rw [u64w]; unfold U64; omega
theorem lo_shr (X : Int) (r : Nat) (hr : r ≤ 64) : lo (X / 2 ^ r) = bits .or .u64 (lo X / 2 ^ r) (IntKind.u64.wrap (lo (X / 18446744073709551616) * 2 ^ (64 - r))) := by
  have h := shr_lo X r hr
  have e : IntKind.u64.wrap (hi X) = lo (X / 18446744073709551616) := by rw [u64w]; rfl
  rw [e] at h
  exact h
theorem div_swap (a : Int) (k : Int) (hk : 0 < k) (n : Nat) : a / 2 ^ n / k = a / k / 2 ^ n := by
  have := pow_pos' n
  rw [Int.ediv_ediv_of_nonneg (by omega), Int.ediv_ediv_of_nonneg (by omega), Int.mul_comm]
theorem q0_lo (a : Int) : q0 a = lo a := rfl
theorem q1_lo (a : Int) : q1 a = lo (a / 18446744073709551616) := rfl
theorem q2_lo (a : Int) : q2 a = lo (a / 18446744073709551616 / 18446744073709551616) := rfl
theorem lo_fill {a : Int} (h : In192 a) : lo (a / 18446744073709551616 / 18446744073709551616 / 18446744073709551616) = fillq a := by rw [fill_q h]; rfl
/-- r places down, r below 64. -/
theorem down0 (a : Int) (h : In192 a) (r : Nat) (hr : r ≤ 64) :
    q0 (a / 2 ^ r) = bits .or .u64 (q0 a / 2 ^ r) (IntKind.u64.wrap (q1 a * 2 ^ (64 - r))) ∧
    q1 (a / 2 ^ r) = bits .or .u64 (q1 a / 2 ^ r) (IntKind.u64.wrap (q2 a * 2 ^ (64 - r))) ∧
    q2 (a / 2 ^ r) = bits .or .u64 (q2 a / 2 ^ r) (IntKind.u64.wrap (fillq a * 2 ^ (64 - r))) := by
  refine ⟨lo_shr a r hr, ?_, ?_⟩
  · rw [q1_lo, div_swap _ _ (by omega)]
    exact lo_shr (a / 18446744073709551616) r hr
  · rw [q2_lo, div_swap _ _ (by omega), div_swap _ _ (by omega), ← lo_fill h]
    exact lo_shr (a / 18446744073709551616 / 18446744073709551616) r hr
theorem q_up1 {a : Int} (h : In192 a) : In192 (a / 18446744073709551616) ∧ q0 (a / 18446744073709551616) = q1 a ∧ q1 (a / 18446744073709551616) = q2 a ∧ q2 (a / 18446744073709551616) = fillq a ∧ fillq (a / 18446744073709551616) = fillq a := by
  have h1 : In192 (a / 18446744073709551616) := by unfold In192 at h ⊢; omega
  refine ⟨h1, rfl, ?_, ?_, ?_⟩
  · unfold q1 q2; omega
  · rw [fill_q h]; unfold q2; omega
  · rw [fill_q h, fill_q h1]; unfold In192 at h; omega
theorem pow_add64 (n r s : Nat) (e : n = r + s) (a : Int) (k : Int) (hk : (2 : Int) ^ s = k) : a / 2 ^ n = a / k / 2 ^ r := by
  have hp := pow_pos' s
  rw [e, Int.pow_add, Int.mul_comm, hk, Int.ediv_ediv_of_nonneg (by omega)]
/-- What words.down answers, word by word: k words and r places down. -/
theorem down_words (a : Int) (h : In192 a) (n r : Nat) (hr : r ≤ 64) :
    (n = r → q0 (a / 2 ^ n) = bits .or .u64 (q0 a / 2 ^ r) (IntKind.u64.wrap (q1 a * 2 ^ (64 - r))) ∧
      q1 (a / 2 ^ n) = bits .or .u64 (q1 a / 2 ^ r) (IntKind.u64.wrap (q2 a * 2 ^ (64 - r))) ∧ q2 (a / 2 ^ n) = bits .or .u64 (q2 a / 2 ^ r) (IntKind.u64.wrap (fillq a * 2 ^ (64 - r)))) ∧
    (n = r + 64 → q0 (a / 2 ^ n) = bits .or .u64 (q1 a / 2 ^ r) (IntKind.u64.wrap (q2 a * 2 ^ (64 - r))) ∧
      q1 (a / 2 ^ n) = bits .or .u64 (q2 a / 2 ^ r) (IntKind.u64.wrap (fillq a * 2 ^ (64 - r))) ∧ q2 (a / 2 ^ n) = bits .or .u64 (fillq a / 2 ^ r) (IntKind.u64.wrap (fillq a * 2 ^ (64 - r)))) ∧
    (n = r + 128 → q0 (a / 2 ^ n) = bits .or .u64 (q2 a / 2 ^ r) (IntKind.u64.wrap (fillq a * 2 ^ (64 - r))) ∧
      q1 (a / 2 ^ n) = bits .or .u64 (fillq a / 2 ^ r) (IntKind.u64.wrap (fillq a * 2 ^ (64 - r))) ∧ q2 (a / 2 ^ n) = bits .or .u64 (fillq a / 2 ^ r) (IntKind.u64.wrap (fillq a * 2 ^ (64 - r)))) := by
  obtain ⟨i1, i2, i3, i4, i5⟩ := q_up1 h
  obtain ⟨j1, j2, j3, j4, j5⟩ := q_up1 i1
  have e2 : a / 18446744073709551616 / 18446744073709551616 = a / 340282366920938463463374607431768211456 := by rw [Int.ediv_ediv_of_nonneg (by omega)]; rfl
  refine ⟨fun e => ?_, fun e => ?_, fun e => ?_⟩
  · subst e; exact down0 a h n hr
  · rw [pow_add64 n r 64 e a _ p64]
    have := down0 _ i1 r hr
    rw [i2, i3, i4, i5] at this
    exact this
  · rw [pow_add64 n r 128 e a _ p128, ← e2]
    have := down0 _ j1 r hr
    rw [j2, j3, j4, j5, i3, i4, i5] at this
    exact this
/-- The same where no place is left over (Go shifts by 64 then: nothing comes in). -/
theorem or_zero64 (x : Int) (h : U64 x) (y : Int) : bits .or .u64 (x / 2 ^ 0) (IntKind.u64.wrap (y * 2 ^ (64 - 0))) = x := by
  have e : IntKind.u64.wrap (y * 2 ^ (64 - 0)) = 0 := by rw [u64w, show 64 - 0 = 64 from rfl, p64]; omega
  rw [e, or_comm64, or_u64 _ _ 64 (by omega) (by simp) (by simpa using h.1) (by simpa [p64] using h.2)]
  unfold U64 at h; simp; omega
end Go.Proofs.Ytikjomekhnkgcaa
/- Two words by one, in the school's way: plain arithmetic, no program. -/
namespace Go.Proofs.Ytikjomekhnkgcaa
open Go.RowKit

theorem nwrap (x : Int) (h0 : 0 ≤ x) (h1 : x < 18446744073709551616) : IntKind.u64.wrap x = x := by rw [u64w]; omega

/-- What is kept while a digit is guessed: c is the guess, r what is left of the upper word. -/
structure Guess (Y A u Q c r : Int) : Prop where
  low : Q ≤ c
  top : c ≤ 4294967297
  split : c * (Y / 4294967296) + r = A
  r0 : 0 ≤ r
  r1 : r < 4294967296
structure Norm (Y A u Q : Int) : Prop where
  y0 : 9223372036854775808 ≤ Y
  y1 : Y < 18446744073709551616
  a0 : 0 ≤ A
  a1 : A < Y
  u0 : 0 ≤ u
  u1 : u < 4294967296
  quo : Q = (A * 4294967296 + u) / Y

section
variable {Y A u Q c r : Int}
theorem Norm.parts (h : Norm Y A u Q) : 2147483648 ≤ Y / 4294967296 ∧ Y / 4294967296 < 4294967296 ∧ 0 ≤ Y % 4294967296 ∧ Y % 4294967296 < 4294967296 := by
  have := h.y0; have := h.y1; omega
theorem Norm.q0 (h : Norm Y A u Q) : 0 ≤ Q := by
  rw [h.quo]
  have := h.y0; have := h.a0; have := h.u0
  exact Int.ediv_nonneg (by omega) (by omega)
theorem Norm.q1 (h : Norm Y A u Q) : Q < 4294967296 := by
  rw [h.quo]
  have := h.y0; have := h.a1; have := h.u1
  exact Int.ediv_lt_of_lt_mul (by omega) (by omega)
theorem Norm.le_iff (h : Norm Y A u Q) (c : Int) : c ≤ Q ↔ c * Y ≤ A * 4294967296 + u := by
  rw [h.quo]
  exact Int.le_ediv_iff_mul_le (by have := h.y0; omega)
theorem mulY (c Y : Int) : c * Y = (c * (Y / 4294967296)) * 4294967296 + c * (Y % 4294967296) := by
  conv => lhs; rw [← Int.mul_ediv_add_emod Y 4294967296, Int.mul_add, Int.mul_comm 4294967296, ← Int.mul_assoc]
theorem Guess.le_iff (h : Norm Y A u Q) (g : Guess Y A u Q c r) : c ≤ Q ↔ c * (Y % 4294967296) ≤ 4294967296 * r + u := by
  rw [h.le_iff, mulY]
  have := g.split
  generalize c * (Y / 4294967296) = m at *
  generalize c * (Y % 4294967296) = n at *
  constructor <;> intro <;> omega
theorem Guess.nn (h : Norm Y A u Q) (g : Guess Y A u Q c r) : 0 ≤ c * (Y % 4294967296) ∧ 0 ≤ c := by
  have := h.q0; have := g.low; have := h.parts
  exact ⟨Int.mul_nonneg (by omega) (by omega), by omega⟩
theorem Guess.small (h : Norm Y A u Q) (_g : Guess Y A u Q c r) (hc : c < 4294967296) : c * (Y % 4294967296) < 18446744073709551616 := by
  obtain ⟨_, _, h3, h4⟩ := h.parts
  have h1 : c * (Y % 4294967296) ≤ 4294967295 * (Y % 4294967296) := Int.mul_le_mul_of_nonneg_right (by omega) h3
  omega
/-- The guess is the digit. -/
theorem Guess.done (h : Norm Y A u Q) (g : Guess Y A u Q Q r) : Q < 4294967296 ∧ Q * (Y % 4294967296) ≤ 4294967296 * r + u ∧ 0 ≤ Q * (Y % 4294967296) ∧ Q * (Y % 4294967296) < 18446744073709551616 ∧ 4294967296 * r + u < 18446744073709551616 := by
  have := g.r1; have := h.u1
  exact ⟨h.q1, (g.le_iff h).1 (Int.le_refl _), (g.nn h).1, g.small h h.q1, by omega⟩
/-- The guess is too great. -/
theorem Guess.more (h : Norm Y A u Q) (g : Guess Y A u Q c r) (hc : Q < c) : 4294967296 * r + u < c * (Y % 4294967296) := by
  have := g.le_iff h
  omega
theorem Guess.next (h : Norm Y A u Q) (g : Guess Y A u Q c r) (hc : Q < c) (hr : r + Y / 4294967296 < 4294967296) : Guess Y A u Q (c - 1) (r + Y / 4294967296) := by
  have := h.parts; have := g.r0; have := g.top; have := g.split
  refine ⟨by omega, by omega, ?_, by omega, hr⟩
  rw [Int.sub_mul]; omega
theorem Guess.last (h : Norm Y A u Q) (g : Guess Y A u Q c r) (hc : Q < c) (hr : 4294967296 ≤ r + Y / 4294967296) : c - 1 = Q := by
  have h1 : c - 1 ≤ Q := by
    rw [h.le_iff, mulY]
    simp only [Int.sub_mul, Int.one_mul]
    have := g.split; have := g.top; have := h.u0
    obtain ⟨p1, p2, p3, p4⟩ := h.parts
    have h2 : (c - 1) * (Y % 4294967296) ≤ 4294967296 * (Y % 4294967296) := Int.mul_le_mul_of_nonneg_right (by omega) p3
    simp only [Int.sub_mul, Int.one_mul] at h2
    generalize c * (Y / 4294967296) = m at *
    generalize c * (Y % 4294967296) = n at *
    omega
  omega
theorem Norm.start (h : Norm Y A u Q) : Guess Y A u Q (A / (Y / 4294967296)) (A - A / (Y / 4294967296) * (Y / 4294967296)) := by
  obtain ⟨p1, p2, p3, p4⟩ := h.parts
  have e := Int.mul_ediv_add_emod A (Y / 4294967296)
  have e1 := Int.emod_nonneg A (show Y / 4294967296 ≠ 0 by omega)
  have e2 := Int.emod_lt_of_pos A (show 0 < Y / 4294967296 by omega)
  have e3 : A / (Y / 4294967296) * (Y / 4294967296) = Y / 4294967296 * (A / (Y / 4294967296)) := Int.mul_comm _ _
  have ha := h.a1; have hy := h.y1; have hu := h.u1
  refine ⟨?_, ?_, by omega, by omega, by omega⟩
  · rw [Int.le_ediv_iff_mul_le (by omega)]
    have h1 := (h.le_iff Q).1 (Int.le_refl _)
    rw [mulY] at h1
    have h2 : 0 ≤ Q * (Y % 4294967296) := Int.mul_nonneg h.q0 p3
    generalize Q * (Y / 4294967296) = m at *
    generalize Q * (Y % 4294967296) = n at *
    omega
  · have h1 : A / (Y / 4294967296) < 4294967298 := by
      apply Int.ediv_lt_of_lt_mul (by omega)
      have : Y = Y / 4294967296 * 4294967296 + Y % 4294967296 := by omega
      omega
    omega
theorem Norm.rest (h : Norm Y A u Q) : 0 ≤ A * 4294967296 + u - Q * Y ∧ A * 4294967296 + u - Q * Y < Y ∧
    IntKind.u64.wrap (IntKind.u64.wrap (IntKind.u64.wrap (A * 4294967296) + u) - IntKind.u64.wrap (Q * Y)) = A * 4294967296 + u - Q * Y := by
  have e := Int.mul_ediv_add_emod (A * 4294967296 + u) Y
  have e1 := Int.emod_nonneg (A * 4294967296 + u) (show Y ≠ 0 by have := h.y0; omega)
  have e2 := Int.emod_lt_of_pos (A * 4294967296 + u) (show 0 < Y by have := h.y0; omega)
  have e3 : Q * Y = Y * ((A * 4294967296 + u) / Y) := by rw [h.quo, Int.mul_comm]
  have hy := h.y1
  refine ⟨by omega, by omega, ?_⟩
  rw [u64w, u64w, u64w, u64w]
  generalize Q * Y = m at *
  omega
end

theorem and_mask (x : Int) (h : U64 x) : bits .and .u64 x 4294967295 = x % 4294967296 := by
  obtain ⟨h0, h1⟩ := h
  obtain ⟨x, rfl⟩ := Int.eq_ofNat_of_zero_le h0
  have h := bits_and_u64_nat x 4294967295 (by omega) (by omega)
  have e : x &&& 4294967295 = x % 4294967296 := Nat.and_two_pow_sub_one_eq_mod x 32
  rw [e] at h
  exact h.trans (by omega)
theorem and_one (x : Int) (h : U64 x) : bits .and .u64 x 1 = x % 2 := by
  obtain ⟨h0, h1⟩ := h
  obtain ⟨x, rfl⟩ := Int.eq_ofNat_of_zero_le h0
  have h := bits_and_u64_nat x 1 (by omega) (by omega)
  have e : x &&& 1 = x % 2 := Nat.and_one_is_mod x
  rw [e] at h
  exact h.trans (by omega)

/-- The two words, shifted so that the divisor's highest bit stands at the top. -/
theorem shift_words (h l y : Int) (k : Nat) (hk : k < 64) (hh : 0 ≤ h) (hhy : h < y) (hl : U64 l) (y0 : 9223372036854775808 ≤ y * 2 ^ k) (y1 : y * 2 ^ k < 18446744073709551616) :
    ∃ A B, 0 ≤ A ∧ A < y * 2 ^ k ∧ U64 B ∧ (h * 18446744073709551616 + l) * 2 ^ k = A * 18446744073709551616 + B ∧
      bits .or .u64 (IntKind.u64.wrap (h * 2 ^ k)) (l / 2 ^ (64 - k)) = A ∧ IntKind.u64.wrap (l * 2 ^ k) = B := by
  have hlo : lo l = l := by unfold lo; unfold U64 at hl; omega
  have hhi : hi l = 0 := by unfold hi; unfold U64 at hl; omega
  obtain ⟨B, hB, e1, e2⟩ := shl_parts l k (by omega)
  rw [hlo, hhi] at e1
  rw [hlo] at e2
  simp only [Int.zero_mul, Int.zero_add] at e1
  obtain ⟨t1, t2⟩ := u64_half l k (by omega) hl
  have hp := pow_pos' k
  have hpr := pow_split k (by omega)
  have hh2 : 0 ≤ h * 2 ^ k := Int.mul_nonneg hh (by omega)
  have h3 : h * 2 ^ k + 2 ^ k ≤ y * 2 ^ k := by
    have : (h + 1) * 2 ^ k ≤ y * 2 ^ k := Int.mul_le_mul_of_nonneg_right (by omega) (by omega)
    rw [Int.add_mul, Int.one_mul] at this
    exact this
  refine ⟨h * 2 ^ k + l / 2 ^ (64 - k), B, by omega, by omega, hB, ?_, ?_, by rw [u64w]; exact e2⟩
  · rw [Int.add_mul, e1, Int.mul_right_comm, Int.add_mul]; omega
  · have e3 : IntKind.u64.wrap (h * 2 ^ k) = h * 2 ^ k := nwrap _ hh2 (by omega)
    rw [e3, or_u64 _ _ k (by omega) (Int.mul_emod_left _ _) t1 t2]
    generalize (2 : Int) ^ k = P at *
    generalize l / 2 ^ (64 - k) = t at *
    omega

/-- The end of it. -/
theorem div_end (h l y A B Q1 Q0 : Int) (k : Nat) (hy : 0 < y) (e : (h * 18446744073709551616 + l) * 2 ^ k = A * 18446744073709551616 + B)
    (n1 : Norm (y * 2 ^ k) A (B / 4294967296) Q1) (n0 : Norm (y * 2 ^ k) (A * 4294967296 + B / 4294967296 - Q1 * (y * 2 ^ k)) (B % 4294967296) Q0) :
    Q1 * 4294967296 + Q0 = (h * 18446744073709551616 + l) / y ∧
    ((A * 4294967296 + B / 4294967296 - Q1 * (y * 2 ^ k)) * 4294967296 + B % 4294967296 - Q0 * (y * 2 ^ k)) / 2 ^ k = (h * 18446744073709551616 + l) % y ∧
    IntKind.u64.wrap (IntKind.u64.wrap (Q1 * 4294967296) + Q0) = (h * 18446744073709551616 + l) / y := by
  obtain ⟨r1, r2, _⟩ := n0.rest
  have hp := pow_pos' k
  have hq0 := n1.q0; have hq1 := n1.q1; have hq2 := n0.q0; have hq3 := n0.q1
  generalize hR : (A * 4294967296 + B / 4294967296 - Q1 * (y * 2 ^ k)) * 4294967296 + B % 4294967296 - Q0 * (y * 2 ^ k) = R at *
  have h1 : (h * 18446744073709551616 + l) * 2 ^ k = (Q1 * 4294967296 + Q0) * y * 2 ^ k + R := by
    rw [e, ← hR, Int.mul_assoc (Q1 * 4294967296 + Q0), Int.add_mul, Int.mul_right_comm Q1, Int.sub_mul, Int.add_mul]
    generalize Q1 * (y * 2 ^ k) = m
    generalize Q0 * (y * 2 ^ k) = n
    omega
  have h2 : R = (h * 18446744073709551616 + l - (Q1 * 4294967296 + Q0) * y) * 2 ^ k := by rw [Int.sub_mul]; omega
  generalize h * 18446744073709551616 + l = N at *
  generalize hqq : Q1 * 4294967296 + Q0 = q at *
  have h3 : 0 ≤ N - q * y := by
    rw [h2] at r1
    exact Int.nonneg_of_mul_nonneg_left r1 hp
  have h4 : N - q * y < y := by
    rw [h2] at r2
    exact Int.lt_of_mul_lt_mul_right r2 (by omega)
  have h5 : N / y = q := by
    have : N = (N - q * y) + q * y := by omega
    rw [this, Int.add_mul_ediv_right _ _ (by omega), Int.ediv_eq_zero_of_lt h3 h4]; omega
  have h6 : N % y = N - q * y := by rw [Int.emod_def, h5, Int.mul_comm]
  refine ⟨h5.symm, ?_, ?_⟩
  · rw [h2, h6, Int.mul_ediv_cancel _ (by omega)]
  · rw [h5, u64w, u64w]; omega
end Go.Proofs.Ytikjomekhnkgcaa
/- A region that draws its order, whose calls leave what was there as it was: one walk of the text's order. -/
namespace Go.Proofs.Ytikjomekhnkgcaa
open Go.RowKit

/-- A world in which what W0 held is as it was. -/
structure Pack (W0 : World) where
  w : World
  ok : Below W0.heap.size W0 w
instance (W0 : World) : Nonempty (Pack W0) := ⟨⟨W0, Below.refl _ _⟩⟩

theorem wp_region_pack {P : Program} {id : Nat} {Q : Exit → Act → World → Prop} {a : Act} {W0 : World} {l : List Oper} (hm : P.follows .mixedOrders = true) (hB : Region.lexB .any l.toArray = true)
    (h : wpQuiet P l.toArray (fun w' => ∃ n : Pack W0, w' = n.w) (fun a' => ∀ n : Pack W0, Q .normal a' n.w) l a) : (Code.region id l.toArray true).wp P Q a W0 := by
  refine wp_region_quiet (C := fun w' => ∃ n : Pack W0, w' = n.w) hm hB ⟨⟨{ W0 with drawn := W0.drawn + 1 }, (Below.refl _ _).drew⟩, rfl⟩ ?_
  have e : (fun a' => ∀ w', (∃ n : Pack W0, w' = n.w) → Q .normal a' w') = (fun a' => ∀ n : Pack W0, Q .normal a' n.w) := by
    funext a'
    exact propext ⟨fun h n => h _ ⟨n, rfl⟩, fun h w' ⟨n, e⟩ => e ▸ h n⟩
  rw [e]
  simpa using h
theorem pack_call {P : Program} {f : FuncId} {args : Array Value} {W0 : World} {n : Pack W0} {v : Value} (h : Calls P f args n.w fun e w' => e = .returned v ∧ Below n.w.heap.size n.w w') :
    Calls P f args n.w fun e w'' => e = .returned v ∧ ∃ m : Pack W0, w'' = m.w :=
  h.mono fun _ w' ⟨he, hb⟩ => ⟨he, ⟨w', n.ok.trans (hb.mono n.ok.size)⟩, rfl⟩
theorem pack_cell {W0 : World} {b o : Nat} {v : Value} (h : W0.cell? ⟨b, o, none⟩ = some v) (hb : b < W0.heap.size) (n : Pack W0) : n.w.cell? ⟨b, o, none⟩ = some v :=
  (n.ok.cell (p := ⟨b, o, none⟩) hb).trans h
end Go.Proofs.Ytikjomekhnkgcaa
/- Numbers as lists of bits: plain. -/
namespace Go.Proofs.Ytikjomekhnkgcaa

def bitI (k : Nat) (x : Int) : Int := x / 2 ^ k % 2
theorem bitI_01 (k : Nat) (x : Int) : 0 ≤ bitI k x ∧ bitI k x ≤ 1 := by unfold bitI; omega
theorem p2pos (k : Nat) : 0 < (2 : Int) ^ k := Int.pow_pos (by decide)
theorem p2succ (k : Nat) : (2 : Int) ^ (k + 1) = 2 * 2 ^ k := by rw [Int.pow_succ, Int.mul_comm]
theorem p2mul {k n : Nat} (h : k ≤ n) : (2 : Int) ^ n = 2 ^ k * 2 ^ (n - k) := by rw [← Int.pow_add, show k + (n - k) = n by omega]
theorem p2le {k n : Nat} (h : k ≤ n) : (2 : Int) ^ k ≤ 2 ^ n := by
  rw [p2mul h]
  have := p2pos k; have := p2pos (n - k)
  have : (2 : Int) ^ k * 1 ≤ 2 ^ k * 2 ^ (n - k) := Int.mul_le_mul_of_nonneg_left (by omega) (by omega)
  omega
theorem bit_far (k n : Nat) (x m : Int) (h : k < n) : bitI k (x + 2 ^ n * m) = bitI k x := by
  unfold bitI
  rw [p2mul (Nat.le_of_lt h), Int.mul_assoc, Int.add_mul_ediv_left _ _ (by have := p2pos k; omega)]
  rw [show n - k = (n - k - 1) + 1 by omega, p2succ, Int.mul_assoc]
  omega
theorem bit_mod (k n : Nat) (x : Int) (h : k < n) : bitI k (x % 2 ^ n) = bitI k x := by
  have := Int.mul_ediv_add_emod x (2 ^ n)
  have e : x = x % 2 ^ n + 2 ^ n * (x / 2 ^ n) := by omega
  conv => rhs; rw [e, bit_far k n _ _ h]
def InB (n : Nat) (x : Int) : Prop := -2 ^ (n - 1) ≤ x ∧ x < 2 ^ (n - 1)
theorem InB.more {n m : Nat} {x : Int} (h : InB n x) (hm : n ≤ m) : InB m x := by
  have := p2le (show n - 1 ≤ m - 1 by omega)
  unfold InB at *; omega
theorem ediv_far {k : Nat} {x : Int} (h0 : -2 ^ k ≤ x) (h1 : x < 2 ^ k) : x / 2 ^ k = if x < 0 then -1 else 0 := by
  have hp := p2pos k
  generalize (2 : Int) ^ k = P at *
  split
  · have h1 : -1 ≤ x / P := (Int.le_ediv_iff_mul_le (by omega)).2 (by omega)
    have h2 : x / P < 0 := Int.ediv_neg_of_neg_of_pos (by omega) (by omega)
    omega
  · exact Int.ediv_eq_zero_of_lt (by omega) (by omega)
theorem bit_sign {n k : Nat} {x : Int} (h : InB n x) (hk : n - 1 ≤ k) : bitI k x = if x < 0 then 1 else 0 := by
  have := p2le hk
  unfold InB at h
  unfold bitI
  rw [ediv_far (by omega) (by omega)]
  split <;> rfl
theorem bit_not (k : Nat) (x : Int) : bitI k (-1 - x) = 1 - bitI k x := by
  unfold bitI
  have hp := p2pos k
  have e : (-1 - x) / 2 ^ k = -1 - x / 2 ^ k := by
    have h1 := Int.mul_ediv_add_emod x (2 ^ k)
    have h2 := Int.emod_nonneg x (show (2 : Int) ^ k ≠ 0 by omega)
    have h3 := Int.emod_lt_of_pos x hp
    have e2 : -1 - x = (2 ^ k - 1 - x % 2 ^ k) + 2 ^ k * (-1 - x / 2 ^ k) := by rw [Int.mul_sub]; omega
    rw [e2, Int.add_mul_ediv_left _ _ (by omega), Int.ediv_eq_zero_of_lt (by omega) (by omega)]; omega
  rw [e]; omega
theorem mod_succ (x : Int) (k : Nat) : x % 2 ^ (k + 1) = x % 2 ^ k + 2 ^ k * bitI k x := by
  unfold bitI
  have hp := p2pos k
  have h1 := Int.mul_ediv_add_emod x (2 ^ k)
  have h2 := Int.emod_nonneg x (show (2 : Int) ^ k ≠ 0 by omega)
  have h3 := Int.emod_lt_of_pos x hp
  have h4 := Int.mul_ediv_add_emod (x / 2 ^ k) 2
  have e : x = (x % 2 ^ k + 2 ^ k * (x / 2 ^ k % 2)) + 2 ^ (k + 1) * (x / 2 ^ k / 2) := by
    have : 2 ^ (k + 1) * (x / 2 ^ k / 2) = 2 ^ k * (2 * (x / 2 ^ k / 2)) := by rw [p2succ, Int.mul_comm 2 (2 ^ k), Int.mul_assoc]
    rw [this, Int.add_assoc, ← Int.mul_add, show x / 2 ^ k % 2 + 2 * (x / 2 ^ k / 2) = x / 2 ^ k by omega]; omega
  have hb : 0 ≤ x / 2 ^ k % 2 ∧ x / 2 ^ k % 2 ≤ 1 := by omega
  have h5 : 0 ≤ 2 ^ k * (x / 2 ^ k % 2) := Int.mul_nonneg (by omega) hb.1
  have h6 : 2 ^ k * (x / 2 ^ k % 2) ≤ 2 ^ k * 1 := Int.mul_le_mul_of_nonneg_left hb.2 (by omega)
  have e3 := p2succ k
  conv => lhs; rw [e]
  rw [Int.add_mul_emod_self_left, Int.emod_eq_of_lt (by omega) (by omega)]
theorem add_step (x y : Int) (k : Nat) (c : Int) (hc : c = (x % 2 ^ k + y % 2 ^ k) / 2 ^ k) :
    0 ≤ c ∧ c ≤ 1 ∧ (bitI k x + bitI k y + c) % 2 = bitI k (x + y) ∧ (bitI k x + bitI k y + c) / 2 = (x % 2 ^ (k + 1) + y % 2 ^ (k + 1)) / 2 ^ (k + 1) := by
  have hp := p2pos k
  have x1 := Int.mul_ediv_add_emod x (2 ^ k)
  have x2 := Int.emod_nonneg x (show (2 : Int) ^ k ≠ 0 by omega)
  have x3 := Int.emod_lt_of_pos x hp
  have y1 := Int.mul_ediv_add_emod y (2 ^ k)
  have y2 := Int.emod_nonneg y (show (2 : Int) ^ k ≠ 0 by omega)
  have y3 := Int.emod_lt_of_pos y hp
  have hc0 : 0 ≤ c := by rw [hc]; exact Int.ediv_nonneg (by omega) (by omega)
  have hc1 : c < 2 := by rw [hc]; exact (Int.ediv_lt_iff_lt_mul hp).2 (by omega)
  have c1 := Int.mul_ediv_add_emod (x % 2 ^ k + y % 2 ^ k) (2 ^ k)
  have c2 := Int.emod_nonneg (x % 2 ^ k + y % 2 ^ k) (show (2 : Int) ^ k ≠ 0 by omega)
  have c3 := Int.emod_lt_of_pos (x % 2 ^ k + y % 2 ^ k) hp
  rw [← hc] at c1
  refine ⟨hc0, by omega, ?_, ?_⟩
  · have e : x + y = (x % 2 ^ k + y % 2 ^ k) % 2 ^ k + 2 ^ k * (x / 2 ^ k + y / 2 ^ k + c) := by rw [Int.mul_add, Int.mul_add]; omega
    unfold bitI
    conv => rhs; rw [e, Int.add_mul_ediv_left _ _ (by omega), Int.ediv_eq_zero_of_lt c2 c3]
    omega
  · have e : x % 2 ^ (k + 1) + y % 2 ^ (k + 1) = (x % 2 ^ k + y % 2 ^ k) % 2 ^ k + 2 ^ k * (bitI k x + bitI k y + c) := by
      rw [mod_succ, mod_succ, Int.mul_add, Int.mul_add]; omega
    rw [e, p2succ, Int.mul_comm 2 (2 ^ k), ← Int.ediv_ediv_of_nonneg (by omega), Int.add_mul_ediv_left _ _ (by omega), Int.ediv_eq_zero_of_lt c2 c3, Int.zero_add]
theorem bit_shl (k n : Nat) (x : Int) : bitI k (x * 2 ^ n) = if k < n then 0 else bitI (k - n) x := by
  split
  · rename_i h
    have := bit_far k n 0 x h
    rw [Int.zero_add, Int.mul_comm] at this
    rw [this]; unfold bitI; simp
  · unfold bitI
    rw [p2mul (show n ≤ k by omega), ← Int.ediv_ediv_of_nonneg (by have := p2pos n; omega), Int.mul_ediv_cancel _ (by have := p2pos n; omega)]
theorem bit_shr (k n : Nat) (x : Int) : bitI k (x / 2 ^ n) = bitI (k + n) x := by
  unfold bitI
  rw [Int.ediv_ediv_of_nonneg (by have := p2pos n; omega), ← Int.pow_add, Nat.add_comm n k]
theorem bits_mod {n : Nat} {x y : Int} (h : ∀ j, j < n → bitI j x = bitI j y) : x % 2 ^ n = y % 2 ^ n := by
  induction n with
  | zero => simp [Int.emod_one]
  | succ n ih => rw [mod_succ, mod_succ, ih fun j hj => h j (by omega), h n (by omega)]
theorem mod_bits {n : Nat} {x y : Int} (h : x % 2 ^ n = y % 2 ^ n) (j : Nat) (hj : j < n) : bitI j x = bitI j y := by
  rw [← bit_mod j n x hj, ← bit_mod j n y hj, h]
theorem mod_eq_of_add {n : Nat} {x y m : Int} (h : x = y + 2 ^ n * m) : x % 2 ^ n = y % 2 ^ n := by rw [h, Int.add_mul_emod_self_left]
/-- A number brought into n bits. -/
def wrB (n : Nat) (x : Int) : Int := (x + 2 ^ (n - 1)) % 2 ^ n - 2 ^ (n - 1)
theorem wrB_in {n : Nat} (hn : 0 < n) (x : Int) : InB n (wrB n x) := by
  have hp := p2pos n
  have e : (2 : Int) ^ n = 2 * 2 ^ (n - 1) := by rw [← p2succ, show n - 1 + 1 = n by omega]
  have h2 := Int.emod_nonneg (x + 2 ^ (n - 1)) (show (2 : Int) ^ n ≠ 0 by omega)
  have h3 := Int.emod_lt_of_pos (x + 2 ^ (n - 1)) hp
  unfold InB wrB; omega
theorem wrB_add (n : Nat) (x : Int) : wrB n x = x + 2 ^ n * -((x + 2 ^ (n - 1)) / 2 ^ n) := by
  have := Int.mul_ediv_add_emod (x + 2 ^ (n - 1)) (2 ^ n)
  unfold wrB; rw [Int.mul_neg]; omega
theorem wrB_bit (n j : Nat) (x : Int) (hj : j < n) : bitI j (wrB n x) = bitI j x := by rw [wrB_add, bit_far j n _ _ hj]
theorem wrB_id {n : Nat} (hn : 0 < n) {x : Int} (h : InB n x) : wrB n x = x := by
  have e : (2 : Int) ^ n = 2 * 2 ^ (n - 1) := by rw [← p2succ, show n - 1 + 1 = n by omega]
  unfold InB at h; unfold wrB
  rw [Int.emod_eq_of_lt (by omega) (by omega)]; omega
theorem InB_ext {n : Nat} (hn : 0 < n) {x y : Int} (hx : InB n x) (hy : InB n y) (h : ∀ j, j < n → bitI j x = bitI j y) : x = y := by
  have e := bits_mod h
  rw [← wrB_id hn hx, ← wrB_id hn hy]
  unfold wrB
  rw [Int.add_emod, e, ← Int.add_emod]
/-- The words of a list of bits: the round of the inner loop. -/
theorem word_step (x : Int) (i k : Nat) (hk : k < 64) : x / 2 ^ (i + k) % 2 ^ (64 - k) = 2 * (x / 2 ^ (i + k + 1) % 2 ^ (63 - k)) + bitI (i + k) x := by
  have hp := p2pos (63 - k)
  have e : x / 2 ^ (i + k + 1) = x / 2 ^ (i + k) / 2 := by rw [p2succ, Int.mul_comm 2, ← Int.ediv_ediv_of_nonneg (by have := p2pos (i + k); omega)]
  rw [e, show 64 - k = (63 - k) + 1 by omega]
  unfold bitI
  generalize x / 2 ^ (i + k) = z
  rw [p2succ]
  generalize (2 : Int) ^ (63 - k) = P at *
  have h1 := Int.mul_ediv_add_emod z 2
  have h2 := Int.mul_ediv_add_emod (z / 2) P
  have h3 := Int.emod_nonneg (z / 2) (show P ≠ 0 by omega)
  have h4 := Int.emod_lt_of_pos (z / 2) hp
  have e2 : z = (2 * (z / 2 % P) + z % 2) + (2 * P) * (z / 2 / P) := by rw [Int.mul_assoc]; omega
  conv => lhs; rw [e2]
  rw [Int.add_mul_emod_self_left, Int.emod_eq_of_lt (by omega) (by omega)]
end Go.Proofs.Ytikjomekhnkgcaa
