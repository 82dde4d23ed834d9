import Derived.Test.YtjhepjmggenadaaF7
import Derived.Laws.FloatArith
/- The float64 of a number of steps: plain, and the code's. -/
namespace Go.Proofs.Ytjhepjmggenadaa
open Go.RowKit
attribute [local go_sem ↓] Go.wp_at_zero Go.wp_at_succ

/-- To the nearest, of two the even one: of whole numbers from 0 on. -/
def rndN (n d : Nat) : Nat := if d < 2 * (n % d) ∨ 2 * (n % d) = d ∧ n / d % 2 = 1 then n / d + 1 else n / d
/-- The 53 bits that are kept. -/
def kpt (M : Nat) : Nat := if M.log2 ≤ 52 then M * 2 ^ (52 - M.log2) else rndN M (2 ^ (M.log2 - 52))
theorem lp64 : Ieee.double.leastPlace = -1074 := by decide
theorem fb64 : Ieee.double.fractionBits = 52 := rfl
theorem bn64 : Ieee.double.binade = 4503599627370496 := by decide
theorem ir64 : Ieee.double.infRung = 9218868437227405312 := by decide
theorem sw64 : Ieee.double.signWeight = 9223372036854775808 := by decide
theorem cut_zero (s : Bool) (n : Nat) : Ieee.Toward.even.cut s n 0 = n := by
  unfold Ieee.Toward.cut
  simp [Nat.mod_one]
theorem cut_even (s : Bool) (n d : Nat) (h : d ≤ n.log2 + 2) : Ieee.Toward.even.cut s n d = rndN n (2 ^ d) := by
  unfold Ieee.Toward.cut rndN
  simp only [Nat.min_eq_left h, Nat.shiftLeft_eq, Nat.one_mul]
  generalize n / 2 ^ d = q
  generalize n % 2 ^ d = r
  generalize 2 ^ d = g
  by_cases h1 : g < 2 * r
  · simp [h1]
  · by_cases h2 : 2 * r = g
    · subst h2
      by_cases h3 : q % 2 = 1
      · simp [h3]
      · simp [h3]
    · have h4 : ¬ g = 2 * r := fun e => h2 e.symm
      simp [h1, h2, h4]
theorem log_lo {M : Nat} (h : 0 < M) : 2 ^ M.log2 ≤ M := (Nat.le_log2 (by omega)).1 (Nat.le_refl _)
theorem log_hi {M : Nat} (h : 0 < M) : M < 2 ^ (M.log2 + 1) := (Nat.log2_lt (by omega)).1 (Nat.lt_succ_self _)
theorem log_is {M k : Nat} (h0 : 2 ^ k ≤ M) (h1 : M < 2 ^ (k + 1)) : M.log2 = k := by
  have hp : 0 < 2 ^ k := Nat.two_pow_pos k
  have a := (Nat.le_log2 (n := M) (by omega)).2 h0
  have b := (Nat.log2_lt (n := M) (by omega)).2 h1
  omega
theorem rndN_bd (n d : Nat) : n / d ≤ rndN n d ∧ rndN n d ≤ n / d + 1 := by unfold rndN; split <;> omega
theorem kpt_bd {M : Nat} (h : 0 < M) : 4503599627370496 ≤ kpt M ∧ kpt M ≤ 9007199254740992 := by
  have l := log_lo h
  have u := log_hi h
  unfold kpt
  split
  · rename_i hL
    obtain ⟨j, hj⟩ : ∃ j, M.log2 + j = 52 := ⟨52 - M.log2, by omega⟩
    rw [show 52 - M.log2 = j by omega]
    have e1 : 2 ^ M.log2 * 2 ^ j = 4503599627370496 := by rw [← Nat.pow_add, hj]
    have e2 : 2 ^ (M.log2 + 1) * 2 ^ j = 9007199254740992 := by rw [← Nat.pow_add, show M.log2 + 1 + j = 53 by omega]
    have a := Nat.mul_le_mul_right (2 ^ j) l
    have b := Nat.mul_le_mul_right (2 ^ j) (Nat.le_of_lt u)
    omega
  · rename_i hL
    obtain ⟨j, hj⟩ : ∃ j, M.log2 = 52 + j := ⟨M.log2 - 52, by omega⟩
    rw [show M.log2 - 52 = j by omega]
    rw [hj] at l u
    rw [Nat.pow_add] at l
    rw [show 52 + j + 1 = 53 + j by omega, Nat.pow_add] at u
    have hp : 0 < 2 ^ j := Nat.two_pow_pos j
    have a : 4503599627370496 ≤ M / 2 ^ j := (Nat.le_div_iff_mul_le hp).2 l
    have b : M / 2 ^ j < 9007199254740992 := (Nat.div_lt_iff_lt_mul hp).2 u
    have c := rndN_bd M (2 ^ j)
    omega
/-- The nearest float64 of a whole number, as its rung. -/
theorem near_pos (s : Bool) {M : Nat} (h : 0 < M) (hM : M ≤ 9223372036854775808) : Ieee.double.nearest s M 0 = Ieee.double.word s ((M.log2 + 1022) * 4503599627370496 + kpt M) := by
  have hL : M.log2 < 64 := (Nat.log2_lt (by omega)).2 (by omega)
  have kb := kpt_bd h
  unfold Ieee.Format.nearest
  rw [if_neg (by omega)]
  simp only [lp64, fb64, bn64, ir64]
  rw [show max ((0 : Int) + (M.log2 : Int) - ((52 : Nat) : Int)) (-1074) = (M.log2 : Int) - 52 by omega]
  rw [show ((M.log2 : Int) - 52 - -1074).toNat = M.log2 + 1022 by omega]
  have key : Ieee.Toward.even.cut s (M <<< ((0 : Int) - ((M.log2 : Int) - 52)).toNat) ((M.log2 : Int) - 52 - 0).toNat = kpt M := by
    unfold kpt
    split
    · rename_i h1
      rw [show ((0 : Int) - ((M.log2 : Int) - 52)).toNat = 52 - M.log2 by omega, show ((M.log2 : Int) - 52 - 0).toNat = 0 by omega, cut_zero, Nat.shiftLeft_eq]
    · rename_i h1
      rw [show ((0 : Int) - ((M.log2 : Int) - 52)).toNat = 0 by omega, show ((M.log2 : Int) - 52 - 0).toNat = M.log2 - 52 by omega, Nat.shiftLeft_zero, cut_even _ _ _ (by omega)]
  rw [key, Nat.min_eq_left (by omega)]
theorem read_rung (s : Bool) {R : Nat} (h0 : 4503599627370496 ≤ R) (h1 : R < 9218868437227405312) :
    Ieee.double.read (Ieee.double.word s R) = .number s (4503599627370496 + R % 4503599627370496) (-1074 + ((R / 4503599627370496 - 1 : Nat) : Int)) := by
  have wf : Ieee.double.word false R = R := rfl
  have wt : Ieee.double.word true R = 9223372036854775808 + R := by unfold Ieee.Format.word; rw [sw64]; rfl
  cases s
  · rw [wf]
    unfold Ieee.Format.read
    simp only [lp64, bn64, ir64, sw64]
    rw [show R % 9223372036854775808 = R by omega, if_neg (by omega), if_pos (by omega), show R / 9223372036854775808 % 2 = 0 by omega]
    rfl
  · rw [wt]
    unfold Ieee.Format.read
    simp only [lp64, bn64, ir64, sw64]
    rw [show (9223372036854775808 + R) % 9223372036854775808 = R by omega, if_neg (by omega), if_pos (by omega), show (9223372036854775808 + R) / 9223372036854775808 % 2 = 1 by omega]
    rfl
theorem quo_num (dg : Nat) (s t : Bool) (m n : Nat) (i j : Int) (h : ¬ n = 0) :
    (Ieee.Datum.number s m i).quotient dg (.number t n j) = some (.number (s ^^ t) (2 * ((m <<< (dg + n.log2 - m.log2)) / n) + ((m <<< (dg + n.log2 - m.log2)) % n != 0).toNat) (i - j - ((dg + n.log2 - m.log2 : Nat) : Int) - 1)) := by
  show (if n = 0 then _ else _) = _
  rw [if_neg h]
theorem read_steps : Ieee.double.read 4751297606875873280 = .number false 4503599627370496 (-20) := by decide
/-- By 2 to the 32nd: 32 binades down. -/
theorem div_steps (s : Bool) {R : Nat} (h0 : 153122387330596864 ≤ R) (h1 : R < 9218868437227405312) :
    Ieee.double.div (Ieee.double.word s R) 4751297606875873280 = some (Ieee.double.word s (R - 144115188075855872)) := by
  unfold Ieee.Format.div
  rw [read_rung s (by omega) h1, read_steps]
  obtain ⟨m, hm⟩ : ∃ m, m = 4503599627370496 + R % 4503599627370496 := ⟨_, rfl⟩
  obtain ⟨q, hq⟩ : ∃ q, q = R / 4503599627370496 - 1 := ⟨_, rfl⟩
  rw [← hm, ← hq]
  have lm : m.log2 = 52 := log_is (by omega) (by omega)
  have l2 : (4503599627370496 : Nat).log2 = 52 := log_is (by omega) (by omega)
  rw [quo_num _ _ _ _ _ _ _ (by omega)]
  simp only [fb64, lm, l2, Option.map_some, Option.some.injEq]
  rw [show 52 + 2 + 52 - 52 = 54 by omega, Nat.shiftLeft_eq]
  rw [show m * 2 ^ 54 / 4503599627370496 = 4 * m by omega, show m * 2 ^ 54 % 4503599627370496 = 0 by omega]
  rw [show (2 * (4 * m) + ((0 : Nat) != 0).toNat) = 8 * m by simp; omega]
  unfold Ieee.Format.write
  simp only []
  rw [show (s ^^ false) = s by cases s <;> rfl]
  unfold Ieee.Format.nearest
  have l8 : (8 * m).log2 = 55 := log_is (by omega) (by omega)
  rw [if_neg (by omega)]
  simp only [lp64, fb64, bn64, ir64, l8]
  rw [show max (-1074 + (q : Int) - -20 - ((54 : Nat) : Int) - 1 + ((55 : Nat) : Int) - ((52 : Nat) : Int)) (-1074) = (q : Int) - 1106 by omega]
  rw [show (-1074 + (q : Int) - -20 - ((54 : Nat) : Int) - 1 - ((q : Int) - 1106)).toNat = 0 by omega, show ((q : Int) - 1106 - (-1074 + (q : Int) - -20 - ((54 : Nat) : Int) - 1)).toNat = 3 by omega, show ((q : Int) - 1106 - -1074).toNat = q - 32 by omega]
  rw [Nat.shiftLeft_zero, cut_even _ _ _ (by omega)]
  rw [show rndN (8 * m) (2 ^ 3) = m by unfold rndN; rw [show 8 * m / 2 ^ 3 = m by omega, show 8 * m % 2 ^ 3 = 0 by omega]; simp]
  exact congrArg (Ieee.double.word s) (by omega)
/-- A number's float64, as its bits. -/
def fbI (a : Int) : Nat := if a = 0 then 0 else Ieee.double.word (decide (a < 0)) ((a.natAbs.log2 + 990) * 4503599627370496 + kpt a.natAbs)
theorem fb_zero : Ieee.double.div 0 4751297606875873280 = some 0 := by decide
theorem near_div {a : Int} (ha : In64 a) : Ieee.double.div (FloatKind.f64.nearest a) 4751297606875873280 = some (fbI a) := by
  unfold FloatKind.nearest FloatKind.encode fbI
  show Ieee.double.div (Ieee.double.write _) _ = _
  unfold Ieee.Format.write
  simp only []
  by_cases h : a = 0
  · subst h
    rw [if_pos rfl, show Ieee.double.nearest (decide ((0 : Int) < 0)) (0 : Int).natAbs 0 = 0 by rfl]
    exact fb_zero
  · rw [if_neg h]
    unfold In64 at ha
    have hp : 0 < a.natAbs := by omega
    have hM : a.natAbs ≤ 9223372036854775808 := by omega
    have hL : a.natAbs.log2 < 64 := (Nat.log2_lt (by omega)).2 (by omega)
    have kb := kpt_bd hp
    rw [near_pos _ hp hM, div_steps _ (by omega) (by omega)]
    exact congrArg (fun x => some (Ieee.double.word (decide (a < 0)) x)) (by omega)
theorem fbI_lt {a : Int} (ha : In64 a) : fbI a < 18446744073709551616 := by
  unfold fbI
  split
  · omega
  · rename_i h
    unfold In64 at ha
    have hp : 0 < a.natAbs := by omega
    have hL : a.natAbs.log2 < 64 := (Nat.log2_lt (by omega)).2 (by omega)
    have kb := kpt_bd hp
    unfold Ieee.Format.word
    rw [sw64]
    split <;> omega
theorem ffloat_any (a : Int) (ha : In64 a) (w : World) :
    Calls Try.prog 31 #[.int .i64 a] w fun e w' => e = .returned (.float .f64 (fbI a)) ∧ Below w.heap.size w w' := by
  have e2 := fun w => run_float_arith (P := Try.prog) w .quo 34 .f64 (floatOfInt .f64 a) 4751297606875873280 (fbI a) (near_div ha)
  generalize fbI a = r at *
  go_enter Try.func31, Try.ntmps31
  go_wp2_with fail
  go_ret
  exact ⟨rfl, (by repeat (first | (with_reducible exact Below.refl _ _) | (with_reducible assumption) | (with_reducible refine Below.drew ?_) | (with_reducible refine Below.alloc ?_ ?_ _) | (with_reducible refine Below.setCell ?_ ?_ _) | (with_reducible refine Below.trans ?_ (Below.mono hb ?_)) | (with_reducible refine Below.trans ?_ (Below.mono hb1 ?_)) | (with_reducible refine Below.trans ?_ (Below.mono hb2 ?_)) | (with_reducible refine Below.trans ?_ (Below.mono hb3 ?_)) | (with_reducible refine Below.trans ?_ (Below.mono hb4 ?_)) | (with_reducible refine Below.trans ?_ (Below.mono hb5 ?_)) | (with_reducible refine Below.trans ?_ (Below.mono hb6 ?_)) | (with_reducible refine Below.trans ?_ (Below.mono hb7 ?_)) | (with_reducible refine Below.trans ?_ (Below.mono hb8 ?_)) | (with_reducible refine Below.trans ?_ (Below.mono hb9 ?_)) | (focus (first | omega | (simp; done) | (simp; omega))) | exact hB))⟩
end Go.Proofs.Ytjhepjmggenadaa
