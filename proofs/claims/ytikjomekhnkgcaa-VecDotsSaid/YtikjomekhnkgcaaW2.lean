import Derived.Test.YtikjomekhnkgcaaW0
import Derived.Deep.QuietTactic
import Derived.BigQuiet
import Derived.RegionTactic
/- Products, comparisons and clamps of package wide. -/
namespace Go.Proofs.Ytikjomekhnkgcaa
open Go.RowKit Go.Lib

namespace M64
theorem maskN (a : Nat) (ha : a < 18446744073709551616) : bits .and .u64 (a : Int) 4294967295 = ((a % 4294967296 : Nat) : Int) := by
  have h := bits_and_u64_nat a 4294967295 ha (by omega)
  have e : a &&& 4294967295 = a % 4294967296 := Nat.and_two_pow_sub_one_eq_mod a 32
  rw [e] at h
  exact h
theorem divN (a : Nat) : (a : Int) / 4294967296 = ((a / 4294967296 : Nat) : Int) := by omega
theorem mulN (a b : Nat) : (a : Int) * (b : Int) = ((a * b : Nat) : Int) := (Int.natCast_mul a b).symm
theorem addN (a b : Nat) : (a : Int) + (b : Int) = ((a + b : Nat) : Int) := (Int.natCast_add a b).symm
theorem wrapN (a : Nat) (ha : a < 18446744073709551616) : IntKind.u64.wrap (a : Int) = (a : Int) := by rw [IntKind.wrap_u64]; omega
theorem wrapM (a : Nat) : IntKind.u64.wrap (a : Int) = ((a % 18446744073709551616 : Nat) : Int) := by rw [IntKind.wrap_u64]; omega
end M64

set_option maxHeartbeats 1000000 in
theorem mul64N (x y : Nat) (hx : x < 18446744073709551616) (hy : y < 18446744073709551616) (w : World) :
    Calls Try.prog 95 #[.int .u64 x, .int .u64 y] w fun e w' => e = .returned (.tuple #[.int .u64 ((x * y / 18446744073709551616 : Nat) : Int), .int .u64 ((x * y % 18446744073709551616 : Nat) : Int)]) ∧ w = w' := by
  obtain ⟨bd, bt, bw, hhi⟩ := Lib.mul64_hi x y hx hy
  have ba := Lib.half_mul_le (a := x / 4294967296) (b := y / 4294967296) (by omega) (by omega)
  have bb := Lib.half_mul_le (a := x / 4294967296) (b := y % 4294967296) (by omega) (by omega)
  have bc := Lib.half_mul_le (a := x % 4294967296) (b := y / 4294967296) (by omega) (by omega)
  have ba' : x / 4294967296 * (y / 4294967296) < 18446744073709551616 := by omega
  have bb' : x / 4294967296 * (y % 4294967296) < 18446744073709551616 := by omega
  have bc' : x % 4294967296 * (y / 4294967296) < 18446744073709551616 := by omega
  have bh1 : x / 4294967296 * (y / 4294967296) + (x / 4294967296 * (y % 4294967296) + x % 4294967296 * (y % 4294967296) / 4294967296) / 4294967296 < 18446744073709551616 := by omega
  have bh : x / 4294967296 * (y / 4294967296) + (x / 4294967296 * (y % 4294967296) + x % 4294967296 * (y % 4294967296) / 4294967296) / 4294967296 + ((x / 4294967296 * (y % 4294967296) + x % 4294967296 * (y % 4294967296) / 4294967296) % 4294967296 + x % 4294967296 * (y / 4294967296)) / 4294967296 < 18446744073709551616 := by omega
  go_enter Try.func95, Try.ntmps95
  go_wp2
  simp only [M64.maskN x hx, M64.maskN y hy, M64.divN, M64.mulN, M64.addN, M64.wrapN _ bd, M64.wrapN _ bb', M64.wrapN _ bt, M64.maskN _ bt, M64.wrapN _ bc', M64.wrapN _ bw, M64.wrapN _ ba', M64.wrapN _ bh1, M64.wrapN _ bh, M64.wrapM (x * y)]
  rw [hhi]
  go_ret2
  exact ⟨rfl, rfl⟩

theorem mul64 (x y : Int) (hx : U64 x) (hy : U64 y) (w : World) :
    Calls Try.prog 95 #[.int .u64 x, .int .u64 y] w fun e w' => e = .returned (.tuple #[.int .u64 (x * y / 18446744073709551616), .int .u64 (x * y % 18446744073709551616)]) ∧ w = w' := by
  obtain ⟨hx0, hx1⟩ := hx
  obtain ⟨hy0, hy1⟩ := hy
  obtain ⟨x, rfl⟩ := Int.eq_ofNat_of_zero_le hx0
  obtain ⟨y, rfl⟩ := Int.eq_ofNat_of_zero_le hy0
  have h := mul64N x y (by omega) (by omega) w
  have e1 : ((x * y / 18446744073709551616 : Nat) : Int) = (x : Int) * y / 18446744073709551616 := by rw [Int.natCast_ediv, Int.natCast_mul]; rfl
  have e2 : ((x * y % 18446744073709551616 : Nat) : Int) = (x : Int) * y % 18446744073709551616 := by rw [Int.natCast_emod, Int.natCast_mul]; rfl
  rw [e1, e2] at h
  exact h

/-! ### the signed product -/
theorem mul_hi_pp (a b : Int) (ha0 : 0 ≤ a) (hb0 : 0 ≤ b) (ha : In64 a) (hb : In64 b) :
    hi (a * b) = wrap64 (IntKind.u64.wrap a * IntKind.u64.wrap b / 18446744073709551616) ∧ lo (a * b) = IntKind.u64.wrap a * IntKind.u64.wrap b % 18446744073709551616 := by
  obtain ⟨_, ha⟩ := ha; obtain ⟨_, hb⟩ := hb
  have e1 : IntKind.u64.wrap a = a := by rw [u64w]; omega
  have e2 : IntKind.u64.wrap b = b := by rw [u64w]; omega
  rw [e1, e2]
  have h1 : 0 ≤ a * b := Int.mul_nonneg ha0 hb0
  have h2 : a * b ≤ 9223372036854775808 * 9223372036854775808 := Int.mul_le_mul (by omega) (by omega) hb0 (by omega)
  generalize a * b = p at *
  unfold hi lo wrap64; omega
theorem in64_mul (a b : Int) (ha : In64 a) (hb : In64 b) : -85070591730234615865843651857942052864 ≤ a * b ∧ a * b ≤ 85070591730234615865843651857942052864 := by
  obtain ⟨a1, a2⟩ := ha; obtain ⟨b1, b2⟩ := hb
  have hA : a.natAbs ≤ 9223372036854775808 := by omega
  have hB : b.natAbs ≤ 9223372036854775808 := by omega
  have h : (a * b).natAbs ≤ 9223372036854775808 * 9223372036854775808 := by rw [Int.natAbs_mul]; exact Nat.mul_le_mul hA hB
  omega
theorem mul_in128 (a b : Int) (ha : In64 a) (hb : In64 b) : In128 (a * b) := by
  have := in64_mul a b ha hb; unfold In128; omega
theorem uu (a b : Int) : IntKind.u64.wrap a * IntKind.u64.wrap b = a * b - 18446744073709551616 * (a / 18446744073709551616 * b + (a * (b / 18446744073709551616))) + 340282366920938463463374607431768211456 * (a / 18446744073709551616 * (b / 18446744073709551616)) := by
  rw [u64w, u64w, Int.emod_def, Int.emod_def, Int.sub_mul, Int.mul_sub, Int.mul_sub]
  generalize hs : a / 18446744073709551616 = s
  generalize ht : b / 18446744073709551616 = t
  have e1 : a * (18446744073709551616 * t) = 18446744073709551616 * (a * t) := by rw [← Int.mul_assoc, Int.mul_comm a, Int.mul_assoc]
  have e2 : 18446744073709551616 * s * b = 18446744073709551616 * (s * b) := Int.mul_assoc _ _ _
  have e3 : 18446744073709551616 * s * (18446744073709551616 * t) = 340282366920938463463374607431768211456 * (s * t) := by
    rw [← Int.mul_assoc, Int.mul_comm (18446744073709551616 * s), ← Int.mul_assoc, Int.mul_assoc]; rfl
  rw [e1, e2, e3, Int.mul_add]; omega
theorem mul_words (a b : Int) (ha : In64 a) (hb : In64 b) :
    hi (a * b) = wrap64 (IntKind.u64.wrap a * IntKind.u64.wrap b / 18446744073709551616 - (if a < 0 then IntKind.u64.wrap b else 0) - (if b < 0 then IntKind.u64.wrap a else 0)) ∧
    lo (a * b) = IntKind.u64.wrap a * IntKind.u64.wrap b % 18446744073709551616 := by
  have hp := in64_mul a b ha hb
  have hq := uu a b
  obtain ⟨a1, a2⟩ := ha; obtain ⟨b1, b2⟩ := hb
  rw [hq, u64w, u64w]
  have sa : a / 18446744073709551616 = if a < 0 then -1 else 0 := by split <;> omega
  have sb : b / 18446744073709551616 = if b < 0 then -1 else 0 := by split <;> omega
  rw [sa, sb]
  generalize a * b = p at *
  clear hq sa sb
  unfold hi lo wrap64
  by_cases ha0 : a < 0 <;> by_cases hb0 : b < 0 <;> simp only [ha0, hb0, if_true, if_false] <;> omega
theorem wrap_sub1 (x y : Int) : wrap64 (IntKind.u64.wrap (x - y)) = wrap64 (x - y) := by rw [u64w]; unfold wrap64; omega
theorem wrap_sub2 (x y z : Int) : wrap64 (IntKind.u64.wrap (IntKind.u64.wrap (x - y) - z)) = wrap64 (x - y - z) := by rw [u64w, u64w]; unfold wrap64; omega
theorem u64_wrap (x : Int) : U64 (IntKind.u64.wrap x) := by rw [u64w]; unfold U64; omega

theorem mul_any (a b : Int) (ha : In64 a) (hb : In64 b) (w : World) :
    Calls Try.prog 67 #[.int .i64 a, .int .i64 b] w fun e w' =>
      e = .returned (.agg #[.int .i64 (hi (a * b)), .int .u64 (lo (a * b))]) ∧ Below w.heap.size w w' := by
  obtain ⟨e1, e2⟩ := mul_words a b ha hb
  have M1 := Lib.hid (fun W => mul64 (IntKind.u64.wrap a) (IntKind.u64.wrap b) (u64_wrap a) (u64_wrap b) W)
  have f1 : ∀ x y, wrap64 (IntKind.u64.wrap (x - y)) = wrap64 (x - y) := wrap_sub1
  have f2 : ∀ x y z, wrap64 (IntKind.u64.wrap (IntKind.u64.wrap (x - y) - z)) = wrap64 (x - y - z) := wrap_sub2
  have F1 := Lib.hid f1; have F2 := Lib.hid f2; clear f1 f2
  by_cases ha0 : a < 0 <;> by_cases hb0 : b < 0 <;> simp only [ha0, hb0, if_true, if_false, Int.sub_zero] at e1 <;> (have E1 := Lib.hid e1) <;> (have E2 := Lib.hid e2) <;> clear e1 e2 <;>
    (go_enter Try.func67, Try.ntmps67
     go_wp2_with (go_at_call 95; refine (M1.out _).mono ?_; rintro e w1 ⟨rfl, rfl⟩)
     first | rw [F2.out, ← E1.out, ← E2.out] | rw [F1.out, ← E1.out, ← E2.out] | rw [← E1.out, ← E2.out]
     exact bodyPost_ret (v := .agg #[.int .i64 (hi (a * b)), .int .u64 (lo (a * b))]) (by simp [results, Try.results67, go_sem]) rfl ⟨rfl, (by repeat (first | (with_reducible exact Below.refl _ _) | (with_reducible assumption) | (with_reducible refine Below.drew ?_) | (with_reducible refine Below.alloc ?_ ?_ _) | (with_reducible refine Below.setCell ?_ ?_ _) | (with_reducible refine Below.trans ?_ (Below.mono hb ?_)) | (with_reducible refine Below.trans ?_ (Below.mono hb1 ?_)) | (with_reducible refine Below.trans ?_ (Below.mono hb2 ?_)) | (with_reducible refine Below.trans ?_ (Below.mono hb3 ?_)) | (with_reducible refine Below.trans ?_ (Below.mono hb4 ?_)) | (with_reducible refine Below.trans ?_ (Below.mono hb5 ?_)) | (with_reducible refine Below.trans ?_ (Below.mono hb6 ?_)) | (with_reducible refine Below.trans ?_ (Below.mono hb7 ?_)) | (with_reducible refine Below.trans ?_ (Below.mono hb8 ?_)) | (with_reducible refine Below.trans ?_ (Below.mono hb9 ?_)) | (focus (first | omega | (simp; done) | (simp; omega))) | exact hB))⟩)

/-- Which of two is the greater. -/
def cmpI (a b : Int) : Int := if a < b then -1 else if a = b then 0 else 1

theorem cmp_any (a b : Int) (w : World) :
    Calls Try.prog 99 #[.agg #[.int .i64 (hi a), .int .u64 (lo a)], .agg #[.int .i64 (hi b), .int .u64 (lo b)]] w fun e w' =>
      e = .returned (.int .i64 (cmpI a b)) ∧ Below w.heap.size w w' := by
  have p := hi_lo a
  have q := hi_lo b
  obtain ⟨p1, p2⟩ := lo_u a
  obtain ⟨q1, q2⟩ := lo_u b
  have P := Lib.hid p; have Q := Lib.hid q; clear p q
  by_cases h1 : hi a < hi b
  · have e : cmpI a b = -1 := by have := P.out; have := Q.out; unfold cmpI; rw [if_pos (by omega)]
    have E := Lib.hid e; clear e
    rw [E.out]
    go_enter Try.func99, Try.ntmps99
    go_wp2
    go_ret
    exact ⟨rfl, (by repeat (first | (with_reducible exact Below.refl _ _) | (with_reducible assumption) | (with_reducible refine Below.drew ?_) | (with_reducible refine Below.alloc ?_ ?_ _) | (with_reducible refine Below.setCell ?_ ?_ _) | (with_reducible refine Below.trans ?_ (Below.mono hb ?_)) | (with_reducible refine Below.trans ?_ (Below.mono hb1 ?_)) | (with_reducible refine Below.trans ?_ (Below.mono hb2 ?_)) | (with_reducible refine Below.trans ?_ (Below.mono hb3 ?_)) | (with_reducible refine Below.trans ?_ (Below.mono hb4 ?_)) | (with_reducible refine Below.trans ?_ (Below.mono hb5 ?_)) | (with_reducible refine Below.trans ?_ (Below.mono hb6 ?_)) | (with_reducible refine Below.trans ?_ (Below.mono hb7 ?_)) | (with_reducible refine Below.trans ?_ (Below.mono hb8 ?_)) | (with_reducible refine Below.trans ?_ (Below.mono hb9 ?_)) | (focus (first | omega | (simp; done) | (simp; omega))) | exact hB))⟩
  by_cases h2 : hi a = hi b
  · have h2' : ((hi a : Int) == hi b) = true := by simpa using h2
    by_cases h3 : lo a < lo b
    · have e : cmpI a b = -1 := by have := P.out; have := Q.out; unfold cmpI; rw [if_pos (by omega)]
      have E := Lib.hid e; clear e
      rw [E.out]
      have H2 := Lib.hid h2; clear h2
      go_enter Try.func99, Try.ntmps99
      go_wp2
      go_ret
      exact ⟨rfl, (by repeat (first | (with_reducible exact Below.refl _ _) | (with_reducible assumption) | (with_reducible refine Below.drew ?_) | (with_reducible refine Below.alloc ?_ ?_ _) | (with_reducible refine Below.setCell ?_ ?_ _) | (with_reducible refine Below.trans ?_ (Below.mono hb ?_)) | (with_reducible refine Below.trans ?_ (Below.mono hb1 ?_)) | (with_reducible refine Below.trans ?_ (Below.mono hb2 ?_)) | (with_reducible refine Below.trans ?_ (Below.mono hb3 ?_)) | (with_reducible refine Below.trans ?_ (Below.mono hb4 ?_)) | (with_reducible refine Below.trans ?_ (Below.mono hb5 ?_)) | (with_reducible refine Below.trans ?_ (Below.mono hb6 ?_)) | (with_reducible refine Below.trans ?_ (Below.mono hb7 ?_)) | (with_reducible refine Below.trans ?_ (Below.mono hb8 ?_)) | (with_reducible refine Below.trans ?_ (Below.mono hb9 ?_)) | (focus (first | omega | (simp; done) | (simp; omega))) | exact hB))⟩
    · by_cases h4 : lo a = lo b
      · have e : cmpI a b = 0 := by have := P.out; have := Q.out; unfold cmpI; rw [if_neg (by omega), if_pos (by omega)]
        have E := Lib.hid e; clear e
        rw [E.out]
        have h4' : ((lo a : Int) == lo b) = true := by simpa using h4
        have H2 := Lib.hid h2; clear h2
        have H4 := Lib.hid h4; clear h4
        go_enter Try.func99, Try.ntmps99
        go_wp2
        go_ret
        exact ⟨rfl, (by repeat (first | (with_reducible exact Below.refl _ _) | (with_reducible assumption) | (with_reducible refine Below.drew ?_) | (with_reducible refine Below.alloc ?_ ?_ _) | (with_reducible refine Below.setCell ?_ ?_ _) | (with_reducible refine Below.trans ?_ (Below.mono hb ?_)) | (with_reducible refine Below.trans ?_ (Below.mono hb1 ?_)) | (with_reducible refine Below.trans ?_ (Below.mono hb2 ?_)) | (with_reducible refine Below.trans ?_ (Below.mono hb3 ?_)) | (with_reducible refine Below.trans ?_ (Below.mono hb4 ?_)) | (with_reducible refine Below.trans ?_ (Below.mono hb5 ?_)) | (with_reducible refine Below.trans ?_ (Below.mono hb6 ?_)) | (with_reducible refine Below.trans ?_ (Below.mono hb7 ?_)) | (with_reducible refine Below.trans ?_ (Below.mono hb8 ?_)) | (with_reducible refine Below.trans ?_ (Below.mono hb9 ?_)) | (focus (first | omega | (simp; done) | (simp; omega))) | exact hB))⟩
      · have e : cmpI a b = 1 := by have := P.out; have := Q.out; unfold cmpI; rw [if_neg (by omega), if_neg (by omega)]
        have E := Lib.hid e; clear e
        rw [E.out]
        have h4' : ((lo a : Int) == lo b) = false := by simpa using h4
        have H2 := Lib.hid h2; clear h2
        have H4 := Lib.hid h4; clear h4
        go_enter Try.func99, Try.ntmps99
        go_wp2
        go_ret
        exact ⟨rfl, (by repeat (first | (with_reducible exact Below.refl _ _) | (with_reducible assumption) | (with_reducible refine Below.drew ?_) | (with_reducible refine Below.alloc ?_ ?_ _) | (with_reducible refine Below.setCell ?_ ?_ _) | (with_reducible refine Below.trans ?_ (Below.mono hb ?_)) | (with_reducible refine Below.trans ?_ (Below.mono hb1 ?_)) | (with_reducible refine Below.trans ?_ (Below.mono hb2 ?_)) | (with_reducible refine Below.trans ?_ (Below.mono hb3 ?_)) | (with_reducible refine Below.trans ?_ (Below.mono hb4 ?_)) | (with_reducible refine Below.trans ?_ (Below.mono hb5 ?_)) | (with_reducible refine Below.trans ?_ (Below.mono hb6 ?_)) | (with_reducible refine Below.trans ?_ (Below.mono hb7 ?_)) | (with_reducible refine Below.trans ?_ (Below.mono hb8 ?_)) | (with_reducible refine Below.trans ?_ (Below.mono hb9 ?_)) | (focus (first | omega | (simp; done) | (simp; omega))) | exact hB))⟩
  · have e : cmpI a b = 1 := by have := P.out; have := Q.out; unfold cmpI; rw [if_neg (by omega), if_neg (by omega)]
    have E := Lib.hid e; clear e
    rw [E.out]
    have h2' : ((hi a : Int) == hi b) = false := by simpa using h2
    have H2 := Lib.hid h2; clear h2
    go_enter Try.func99, Try.ntmps99
    go_wp2
    go_ret
    exact ⟨rfl, (by repeat (first | (with_reducible exact Below.refl _ _) | (with_reducible assumption) | (with_reducible refine Below.drew ?_) | (with_reducible refine Below.alloc ?_ ?_ _) | (with_reducible refine Below.setCell ?_ ?_ _) | (with_reducible refine Below.trans ?_ (Below.mono hb ?_)) | (with_reducible refine Below.trans ?_ (Below.mono hb1 ?_)) | (with_reducible refine Below.trans ?_ (Below.mono hb2 ?_)) | (with_reducible refine Below.trans ?_ (Below.mono hb3 ?_)) | (with_reducible refine Below.trans ?_ (Below.mono hb4 ?_)) | (with_reducible refine Below.trans ?_ (Below.mono hb5 ?_)) | (with_reducible refine Below.trans ?_ (Below.mono hb6 ?_)) | (with_reducible refine Below.trans ?_ (Below.mono hb7 ?_)) | (with_reducible refine Below.trans ?_ (Below.mono hb8 ?_)) | (with_reducible refine Below.trans ?_ (Below.mono hb9 ?_)) | (focus (first | omega | (simp; done) | (simp; omega))) | exact hB))⟩

/-- Clamped to 64 bits. -/
def clampI (a : Int) : Int := if a < -9223372036854775808 then -9223372036854775808 else if 9223372036854775807 < a then 9223372036854775807 else a
def overI (a : Int) : Bool := decide (a < -9223372036854775808) || decide (9223372036854775807 < a)

theorem clamp_any (a : Int) (w : World) :
    Calls Try.prog 96 #[.agg #[.int .i64 (hi a), .int .u64 (lo a)]] w fun e w' =>
      e = .returned (.tuple #[.int .i64 (clampI a), .bool (overI a)]) ∧ Below w.heap.size w w' := by
  have p := hi_lo a
  obtain ⟨p1, p2⟩ := lo_u a
  have P := Lib.hid p; clear p
  by_cases h1 : hi a = wrap64 (lo a) / 9223372036854775808
  · have e1 : clampI a = wrap64 (lo a) := by have := P.out; unfold clampI; unfold wrap64 at *; rw [if_neg (by omega), if_neg (by omega)]; omega
    have e2 : overI a = false := by have := P.out; unfold overI; unfold wrap64 at *; simp; omega
    have E1 := Lib.hid e1; have E2 := Lib.hid e2; clear e1 e2
    rw [E1.out, E2.out]
    have h1' : (hi a == wrap64 (lo a) / 9223372036854775808) = true := by simpa using h1
    clear h1
    go_enter Try.func96, Try.ntmps96
    go_wp2
    go_ret2
    exact ⟨rfl, (by repeat (first | (with_reducible exact Below.refl _ _) | (with_reducible assumption) | (with_reducible refine Below.drew ?_) | (with_reducible refine Below.alloc ?_ ?_ _) | (with_reducible refine Below.setCell ?_ ?_ _) | (with_reducible refine Below.trans ?_ (Below.mono hb ?_)) | (with_reducible refine Below.trans ?_ (Below.mono hb1 ?_)) | (with_reducible refine Below.trans ?_ (Below.mono hb2 ?_)) | (with_reducible refine Below.trans ?_ (Below.mono hb3 ?_)) | (with_reducible refine Below.trans ?_ (Below.mono hb4 ?_)) | (with_reducible refine Below.trans ?_ (Below.mono hb5 ?_)) | (with_reducible refine Below.trans ?_ (Below.mono hb6 ?_)) | (with_reducible refine Below.trans ?_ (Below.mono hb7 ?_)) | (with_reducible refine Below.trans ?_ (Below.mono hb8 ?_)) | (with_reducible refine Below.trans ?_ (Below.mono hb9 ?_)) | (focus (first | omega | (simp; done) | (simp; omega))) | exact hB))⟩
  · have h1' : (hi a == wrap64 (lo a) / 9223372036854775808) = false := by simpa using h1
    by_cases h2 : hi a < 0
    · have e1 : clampI a = -9223372036854775808 := by have := P.out; unfold clampI; unfold wrap64 at *; rw [if_pos (by omega)]
      have e2 : overI a = true := by have := P.out; unfold overI; unfold wrap64 at *; simp; omega
      have E1 := Lib.hid e1; have E2 := Lib.hid e2; clear e1 e2
      rw [E1.out, E2.out]
      clear h1
      go_enter Try.func96, Try.ntmps96
      go_wp2
      go_ret2
      exact ⟨rfl, (by repeat (first | (with_reducible exact Below.refl _ _) | (with_reducible assumption) | (with_reducible refine Below.drew ?_) | (with_reducible refine Below.alloc ?_ ?_ _) | (with_reducible refine Below.setCell ?_ ?_ _) | (with_reducible refine Below.trans ?_ (Below.mono hb ?_)) | (with_reducible refine Below.trans ?_ (Below.mono hb1 ?_)) | (with_reducible refine Below.trans ?_ (Below.mono hb2 ?_)) | (with_reducible refine Below.trans ?_ (Below.mono hb3 ?_)) | (with_reducible refine Below.trans ?_ (Below.mono hb4 ?_)) | (with_reducible refine Below.trans ?_ (Below.mono hb5 ?_)) | (with_reducible refine Below.trans ?_ (Below.mono hb6 ?_)) | (with_reducible refine Below.trans ?_ (Below.mono hb7 ?_)) | (with_reducible refine Below.trans ?_ (Below.mono hb8 ?_)) | (with_reducible refine Below.trans ?_ (Below.mono hb9 ?_)) | (focus (first | omega | (simp; done) | (simp; omega))) | exact hB))⟩
    · have e1 : clampI a = 9223372036854775807 := by have := P.out; unfold clampI; unfold wrap64 at *; rw [if_neg (by omega), if_pos (by omega)]
      have e2 : overI a = true := by have := P.out; unfold overI; unfold wrap64 at *; simp; omega
      have E1 := Lib.hid e1; have E2 := Lib.hid e2; clear e1 e2
      rw [E1.out, E2.out]
      clear h1
      go_enter Try.func96, Try.ntmps96
      go_wp2
      go_ret2
      exact ⟨rfl, (by repeat (first | (with_reducible exact Below.refl _ _) | (with_reducible assumption) | (with_reducible refine Below.drew ?_) | (with_reducible refine Below.alloc ?_ ?_ _) | (with_reducible refine Below.setCell ?_ ?_ _) | (with_reducible refine Below.trans ?_ (Below.mono hb ?_)) | (with_reducible refine Below.trans ?_ (Below.mono hb1 ?_)) | (with_reducible refine Below.trans ?_ (Below.mono hb2 ?_)) | (with_reducible refine Below.trans ?_ (Below.mono hb3 ?_)) | (with_reducible refine Below.trans ?_ (Below.mono hb4 ?_)) | (with_reducible refine Below.trans ?_ (Below.mono hb5 ?_)) | (with_reducible refine Below.trans ?_ (Below.mono hb6 ?_)) | (with_reducible refine Below.trans ?_ (Below.mono hb7 ?_)) | (with_reducible refine Below.trans ?_ (Below.mono hb8 ?_)) | (with_reducible refine Below.trans ?_ (Below.mono hb9 ?_)) | (focus (first | omega | (simp; done) | (simp; omega))) | exact hB))⟩
end Go.Proofs.Ytikjomekhnkgcaa
