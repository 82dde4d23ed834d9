import Derived.Test.YtjhepjmggenadaaMD
/- Roots there are. -/
namespace Go.Proofs.Ytjhepjmggenadaa
open Go.RowKit
attribute [local go_sem ↓] Go.wp_at_zero Go.wp_at_succ

theorem root_ex (n : Nat) : ∃ r, isRoot (n : Int) r := by
  induction n with
  | zero => exact ⟨0, by unfold isRoot; omega⟩
  | succ n ih =>
    obtain ⟨r, h0, h1, h2⟩ := ih
    by_cases h : (r + 1) * (r + 1) ≤ (n : Int) + 1
    · refine ⟨r + 1, by omega, by push_cast; exact h, ?_⟩
      have : (r + 1 + 1) * (r + 1 + 1) = (r + 1) * (r + 1) + 2 * r + 3 := by rw [Int.add_mul, Int.mul_add (r + 1) (r + 1) 1]; omega
      push_cast; omega
    · exact ⟨r, h0, by push_cast; omega, by push_cast; omega⟩
theorem root_ex' (x : Int) (h : 0 ≤ x) : ∃ r, isRoot x r := by
  obtain ⟨r, hr⟩ := root_ex x.toNat
  rw [Int.toNat_of_nonneg h] at hr
  exact ⟨r, hr⟩
noncomputable def rtI (a : Int) : Int := if h : 0 ≤ a * 4294967296 then Classical.choose (root_ex' _ h) else 0
theorem rtI_root (a : Int) (h : 0 ≤ a) : isRoot (a * 4294967296) (rtI a) := by
  have h1 : 0 ≤ a * 4294967296 := by omega
  unfold rtI
  rw [dif_pos h1]
  exact Classical.choose_spec (root_ex' _ h1)
theorem rtI_neg (a : Int) (h : a < 0) : rtI a = 0 := by unfold rtI; rw [dif_neg (by omega)]
theorem fsqrt_all (a : Int) (ha : In64 a) (w : World) :
    Calls Try.prog 18 #[.int .i64 a] w fun e w' => e = .returned (.tuple #[.int .i64 (rtI a), .bool (decide (a < 0))]) ∧ Below w.heap.size w w' := by
  by_cases h : a < 0
  · rw [rtI_neg a h, decide_eq_true h]; exact fsqrt_neg a ha h w
  · rw [decide_eq_false h]; exact fsqrt_any a ha (by omega) _ (rtI_root a (by omega)) w
theorem sq_le {x y : Int} (h0 : 0 ≤ x) (h : x ≤ y) : x * x ≤ y * y := Int.mul_le_mul h h h0 (by omega)
theorem sq_lt {x y : Int} (h0 : 0 ≤ y) (h : x * x < y * y) (_hx : 0 ≤ x) : x < y := by
  rcases Int.lt_or_le x y with h1 | h1
  · exact h1
  · have := sq_le h0 h1; omega
theorem root_le {m n r s : Int} (hr : isRoot m r) (hs : isRoot n s) (h : m ≤ n) : r ≤ s := by
  obtain ⟨a0, a1, a2⟩ := hr
  obtain ⟨b0, b1, b2⟩ := hs
  have := sq_lt (x := r) (y := s + 1) (by omega) (by omega) a0
  omega
theorem rtI_le {a b : Int} (h : a ≤ b) : rtI a ≤ rtI b := by
  by_cases ha : a < 0
  · rw [rtI_neg a ha]
    by_cases hb : b < 0
    · rw [rtI_neg b hb]; omega
    · exact (rtI_root b (by omega)).1
  · exact root_le (rtI_root a (by omega)) (rtI_root b (by omega)) (by omega)
theorem rnd_le {x y m : Int} (hm : 0 < m) (h : x ≤ y) : rnd x m ≤ rnd y m := by
  have a1 := Int.mul_ediv_add_emod x m
  have a2 := Int.mul_ediv_add_emod y m
  have a3 := Int.ediv_le_ediv hm h
  unfold rnd
  rcases Int.lt_or_le (x / m) (y / m) with c | c
  · generalize x / m = q at *
    generalize y / m = p at *
    split <;> split <;> omega
  · have c1 : x / m = y / m := by omega
    rw [c1] at a1 ⊢
    have a4 : x % m ≤ y % m := by omega
    generalize y / m = p at *
    generalize x % m = r at *
    generalize y % m = s at *
    split <;> split <;> omega
theorem clampI_le {x y : Int} (h : x ≤ y) : clampI x ≤ clampI y := by unfold clampI; split <;> split <;> (try split) <;> (try split) <;> omega
end Go.Proofs.Ytjhepjmggenadaa
