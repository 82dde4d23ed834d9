import Derived.Test.YtikjomekhnkgcaaL5
import Derived.Test.YtikjomekhnkgcaaW6
import Derived.Test.YtikjomekhnkgcaaMA
/- Quotients: how near they are; by 0. -/
namespace Go.Proofs.Ytikjomekhnkgcaa
open Go.RowKit
attribute [local go_sem ↓] Go.wp_at_zero Go.wp_at_succ

theorem absI_nonneg (a : Int) : 0 ≤ absI a := by unfold absI; split <;> omega
theorem rnd_mul (x y : Int) (hy : 0 < y) : rnd (x * y) y = x := by
  unfold rnd
  rw [Int.mul_emod_left, Int.mul_ediv_cancel _ (by omega), if_neg (by omega)]
theorem absI_mul (a b : Int) : absI (a * b) = absI a * absI b := by
  unfold absI
  rcases Int.lt_trichotomy a 0 with h | h | h <;> rcases Int.lt_trichotomy b 0 with k | k | k
  · have := Int.mul_pos_of_neg_of_neg h k
    rw [if_neg (by omega), if_pos h, if_pos k, Int.neg_mul_neg]
  · subst k; simp
  · have := Int.mul_neg_of_neg_of_pos h k
    rw [if_pos this, if_pos h, if_neg (by omega), Int.neg_mul]
  · subst h; simp
  · subst h; simp
  · subst h; simp
  · have := Int.mul_neg_of_pos_of_neg h k
    rw [if_pos this, if_neg (by omega), if_pos k, Int.mul_neg]
  · subst k; simp
  · have := Int.mul_pos h k
    rw [if_neg (by omega), if_neg (by omega), if_neg (by omega)]
theorem quo_mul (a b : Int) (hb : b ≠ 0) : quoI (a * b) b = a := by
  have h1 : 0 < absI b := by unfold absI; split <;> omega
  unfold quoI
  rw [absI_mul, rnd_mul _ _ h1]
  unfold absI
  rcases Int.lt_trichotomy a 0 with h | h | h <;> rcases Int.lt_trichotomy b 0 with k | k | k
  · have := Int.mul_pos_of_neg_of_neg h k
    rw [decide_eq_false (by omega), decide_eq_true k, if_neg (by decide), if_pos h]; omega
  · exact absurd k hb
  · have := Int.mul_neg_of_neg_of_pos h k
    rw [decide_eq_true this, decide_eq_false (by omega), if_neg (by decide), if_pos h]; omega
  · subst h; simp
  · exact absurd k hb
  · subst h; simp
  · have := Int.mul_neg_of_pos_of_neg h k
    rw [decide_eq_true this, decide_eq_true k, if_pos rfl, if_neg (by omega)]
  · exact absurd k hb
  · have := Int.mul_pos h k
    rw [decide_eq_false (by omega), decide_eq_false (by omega), if_pos rfl, if_neg (by omega)]
theorem rnd_near (x y : Int) (hx : 0 ≤ x) (hy : 0 < y) : -y ≤ 2 * (x - rnd x y * y) ∧ 2 * (x - rnd x y * y) ≤ y ∧ ((2 * (x - rnd x y * y) = y ∨ 2 * (x - rnd x y * y) = -y) → rnd x y % 2 = 0) ∧ 0 ≤ rnd x y ∧ rnd x y ≤ x + 1 := by
  have h1 := Int.mul_ediv_add_emod x y
  have h2 := Int.emod_nonneg x (show y ≠ 0 by omega)
  have h3 := Int.emod_lt_of_pos x hy
  have h4 : 0 ≤ x / y := Int.ediv_nonneg hx (by omega)
  have h5 : x / y * y = y * (x / y) := Int.mul_comm _ _
  have h6 : (x / y + 1) * y = y * (x / y) + y := by rw [Int.add_mul, Int.one_mul, h5]
  have h7 : x / y ≤ y * (x / y) := by
    have : 1 * (x / y) ≤ y * (x / y) := Int.mul_le_mul_of_nonneg_right (by omega) h4
    omega
  unfold rnd
  generalize x / y = q at *
  generalize x % y = r at *
  split
  · rw [h6]; generalize y * q = p at *; omega
  · rw [h5]; generalize y * q = p at *; omega
theorem absI_cases (a : Int) : (a < 0 ∧ absI a = -a) ∨ (0 ≤ a ∧ absI a = a) := by unfold absI; split <;> omega
theorem quo_near (n d : Int) (hd : d ≠ 0) : 2 * absI (n - quoI n d * d) ≤ absI d ∧ (2 * absI (n - quoI n d * d) = absI d → quoI n d % 2 = 0) ∧ -(absI n + 1) ≤ quoI n d ∧ quoI n d ≤ absI n + 1 := by
  have h1 : 0 < absI d := by unfold absI; split <;> omega
  obtain ⟨a1, a2, a3, a4, a5⟩ := rnd_near (absI n) (absI d) (absI_nonneg n) h1
  generalize hr : rnd (absI n) (absI d) = r at *
  have hq : quoI n d = if decide (n < 0) = decide (d < 0) then r else -r := by unfold quoI; rw [hr]
  have e : ∀ u : Int, 0 ≤ u → u = n - quoI n d * d ∨ u = -(n - quoI n d * d) → absI (n - quoI n d * d) = u := by
    intro u hu h; unfold absI; split <;> omega
  have key : n - quoI n d * d = absI n - r * absI d ∨ n - quoI n d * d = -(absI n - r * absI d) := by
    rw [hq]
    rcases absI_cases n with ⟨s, es⟩ | ⟨s, es⟩ <;> rcases absI_cases d with ⟨t, et⟩ | ⟨t, et⟩ <;> rw [es, et]
    · rw [decide_eq_true s, decide_eq_true t, if_pos rfl, Int.mul_neg]; omega
    · rw [decide_eq_true s, decide_eq_false (by omega), if_neg (by decide), Int.neg_mul]; omega
    · rw [decide_eq_false (by omega), decide_eq_true t, if_neg (by decide), Int.neg_mul, Int.mul_neg]; omega
    · rw [decide_eq_false (by omega), decide_eq_false (by omega), if_pos rfl]; omega
  have habs : absI (n - quoI n d * d) = absI n - r * absI d ∨ absI (n - quoI n d * d) = -(absI n - r * absI d) := by
    rcases absI_cases (n - quoI n d * d) with ⟨s, es⟩ | ⟨s, es⟩ <;> omega
  have hq2 : quoI n d = r ∨ quoI n d = -r := by rw [hq]; split <;> simp
  generalize absI (n - quoI n d * d) = u at *
  generalize r * absI d = p at *
  clear key e hq
  refine ⟨by omega, fun h => ?_, by omega, by omega⟩
  have := a3 (by omega)
  omega
theorem cmp_lt' {a b : Int} (h : a < b) : cmpI a b = -1 := by unfold cmpI; rw [if_pos h]
theorem cmp_eq' {a b : Int} (h : a = b) : cmpI a b = 0 := by unfold cmpI; rw [if_neg (by omega), if_pos h]
theorem beq_no {x y : Int} (h : x ≠ y) : (x == y) = false := by simpa using h
theorem beq_yes {x y : Int} (h : x = y) : (x == y) = true := by simpa using h
theorem quo_zero (a : Int) (w : World) :
    Calls Try.prog 78 #[.agg #[.int .i64 (hi a), .int .u64 (lo a)], .int .i64 0] w fun e w' =>
      e = .returned (.tuple #[.agg #[.int .i64 0, .int .u64 0], .bool false]) ∧ Below w.heap.size w w' := by
  go_enter Try.func78, Try.ntmps78
  go_wp2
  exact bodyPost_ret (v := _) (by simp [*, results, Try.results78, go_sem]) rfl ⟨rfl, (by repeat (first | (with_reducible exact Below.refl _ _) | (with_reducible assumption) | (with_reducible refine Below.drew ?_) | (with_reducible refine Below.alloc ?_ ?_ _) | (with_reducible refine Below.setCell ?_ ?_ _) | (with_reducible refine Below.trans ?_ (Below.mono hb ?_)) | (with_reducible refine Below.trans ?_ (Below.mono hb1 ?_)) | (with_reducible refine Below.trans ?_ (Below.mono hb2 ?_)) | (with_reducible refine Below.trans ?_ (Below.mono hb3 ?_)) | (with_reducible refine Below.trans ?_ (Below.mono hb4 ?_)) | (with_reducible refine Below.trans ?_ (Below.mono hb5 ?_)) | (with_reducible refine Below.trans ?_ (Below.mono hb6 ?_)) | (with_reducible refine Below.trans ?_ (Below.mono hb7 ?_)) | (with_reducible refine Below.trans ?_ (Below.mono hb8 ?_)) | (with_reducible refine Below.trans ?_ (Below.mono hb9 ?_)) | (focus (first | omega | (simp; done) | (simp; omega))) | exact hB))⟩

end Go.Proofs.Ytikjomekhnkgcaa
