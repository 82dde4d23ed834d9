import Derived.Test.YtjhepjmggenadaaL0
/- Long numbers: sums. -/
namespace Go.Proofs.Ytjhepjmggenadaa
open Go.RowKit
attribute [local go_sem ↓] Go.wp_at_zero Go.wp_at_succ

set_option maxHeartbeats 1000000 in
theorem plusq_any (a b : Int) (w : World) :
    Calls Try.prog 108 #[.agg #[.int .u64 (q0 a), .int .u64 (q1 a), .int .u64 (q2 a)], .agg #[.int .u64 (q0 b), .int .u64 (q1 b), .int .u64 (q2 b)]] w fun e w' =>
      e = .returned (.agg #[.int .u64 (q0 (a + b)), .int .u64 (q1 (a + b)), .int .u64 (q2 (a + b))]) ∧ Below w.heap.size w w' := by
  obtain ⟨e1, e2, e3⟩ := add_q a b
  obtain ⟨a0, a0'⟩ := q0_u a; obtain ⟨a1, a1'⟩ := q1_u a; obtain ⟨a2, a2'⟩ := q2_u a
  obtain ⟨b0, b0'⟩ := q0_u b; obtain ⟨b1, b1'⟩ := q1_u b; obtain ⟨b2, b2'⟩ := q2_u b
  rw [e1, e2, e3]
  clear e1 e2 e3
  generalize q0 a = x0 at *; generalize q1 a = x1 at *; generalize q2 a = x2 at *
  generalize q0 b = y0 at *; generalize q1 b = y1 at *; generalize q2 b = y2 at *
  have A0 := Lib.hid (fun W => add64_0 x0 y0 a0 b0 W)
  have A1 := Lib.hid (fun W => add64 x1 y1 ((x0 + y0) / 18446744073709551616) a1 b1 (by omega) (by omega) W)
  have A2 := Lib.hid (fun W => add64 x2 y2 ((x1 + y1 + (x0 + y0) / 18446744073709551616) / 18446744073709551616) a2 b2 (by omega) (by omega) W)
  go_enter Try.func108, Try.ntmps108
  go_wp2
  refine wp_loop_rounds 4 ?_
  rw [rounds_succ]
  go_wp2
  have A0' := A0.out
  go_region
  clear A0'
  go_wp2
  rw [rounds_succ]
  go_wp2
  have A1' := A1.out
  go_region
  clear A1'
  go_wp2
  rw [rounds_succ]
  go_wp2
  have A2' := A2.out
  go_region
  clear A2'
  go_wp2
  rw [rounds_succ]
  go_wp2
  exact bodyPost_ret (v := .agg #[.int .u64 ((x0 + y0) % 18446744073709551616), .int .u64 ((x1 + y1 + (x0 + y0) / 18446744073709551616) % 18446744073709551616),
    .int .u64 ((x2 + y2 + (x1 + y1 + (x0 + y0) / 18446744073709551616) / 18446744073709551616) % 18446744073709551616)]) (by simp [results, Try.results108, go_sem]) rfl ⟨rfl, (by repeat (first | (with_reducible exact Below.refl _ _) | (with_reducible assumption) | (with_reducible refine Below.drew ?_) | (with_reducible refine Below.alloc ?_ ?_ _) | (with_reducible refine Below.setCell ?_ ?_ _) | (with_reducible refine Below.trans ?_ (Below.mono hb ?_)) | (with_reducible refine Below.trans ?_ (Below.mono hb1 ?_)) | (with_reducible refine Below.trans ?_ (Below.mono hb2 ?_)) | (with_reducible refine Below.trans ?_ (Below.mono hb3 ?_)) | (with_reducible refine Below.trans ?_ (Below.mono hb4 ?_)) | (with_reducible refine Below.trans ?_ (Below.mono hb5 ?_)) | (with_reducible refine Below.trans ?_ (Below.mono hb6 ?_)) | (with_reducible refine Below.trans ?_ (Below.mono hb7 ?_)) | (with_reducible refine Below.trans ?_ (Below.mono hb8 ?_)) | (with_reducible refine Below.trans ?_ (Below.mono hb9 ?_)) | (focus (first | omega | (simp; done) | (simp; omega))) | exact hB))⟩

theorem bitq_any (a n : Int) (h0 : 0 ≤ n) (h1 : n < 192) (w : World) :
    Calls Try.prog 106 #[.agg #[.int .u64 (q0 a), .int .u64 (q1 a), .int .u64 (q2 a)], .int .i64 n] w fun e w' =>
      e = .returned (.int .u64 (a / 2 ^ n.toNat % 2)) ∧ Below w.heap.size w w' := by
  have key : ∀ X : Int, bits .and .u64 (X % 18446744073709551616 / 2 ^ (n % 64).toNat) 1 = X / 2 ^ (n % 64).toNat % 2 := by
    intro X
    have hp := pow_pos' (n % 64).toNat
    have hs := pow_split (n % 64).toNat (by omega)
    have h2 : (2 : Int) ^ (64 - (n % 64).toNat) = 2 * 2 ^ (63 - (n % 64).toNat) := by
      rw [show 64 - (n % 64).toNat = 63 - (n % 64).toNat + 1 by omega, Int.pow_succ, Int.mul_comm]
    generalize (2 : Int) ^ (n % 64).toNat = P at *
    generalize (2 : Int) ^ (63 - (n % 64).toNat) = Q at *
    have u : U64 (X % 18446744073709551616 / P) := by
      have h3 := Int.emod_nonneg X (show (18446744073709551616 : Int) ≠ 0 by omega)
      have h4 := Int.emod_lt_of_pos X (show (0 : Int) < 18446744073709551616 by omega)
      have h5 := Int.ediv_le_self P h3
      exact ⟨Int.ediv_nonneg h3 (by omega), by omega⟩
    rw [and_one _ u]
    have h6 := Int.mul_ediv_add_emod X 18446744073709551616
    have h7 : X / P = X % 18446744073709551616 / P + 2 * (Q * (X / 18446744073709551616)) := by
      conv => lhs; rw [← h6, Int.add_comm]
      rw [← hs, h2, Int.mul_assoc P, Int.add_mul_ediv_left _ _ (by omega), Int.mul_assoc]
    omega
  have hr0 : 0 ≤ n % 64 := by omega
  have hr1 : n % 64 < 64 := by omega
  by_cases c1 : n < 64
  · have e : a / 2 ^ n.toNat % 2 = bits .and .u64 (q0 a / 2 ^ (n % 64).toNat) 1 := by
      rw [show (n % 64) = n by omega] at key ⊢
      exact (key a).symm
    rw [e]
    clear e key
    have d : n / 64 = 0 := by omega
    go_enter Try.func106, Try.ntmps106
    go_wp2
    go_ret
    exact ⟨rfl, (by repeat (first | (with_reducible exact Below.refl _ _) | (with_reducible assumption) | (with_reducible refine Below.drew ?_) | (with_reducible refine Below.alloc ?_ ?_ _) | (with_reducible refine Below.setCell ?_ ?_ _) | (with_reducible refine Below.trans ?_ (Below.mono hb ?_)) | (with_reducible refine Below.trans ?_ (Below.mono hb1 ?_)) | (with_reducible refine Below.trans ?_ (Below.mono hb2 ?_)) | (with_reducible refine Below.trans ?_ (Below.mono hb3 ?_)) | (with_reducible refine Below.trans ?_ (Below.mono hb4 ?_)) | (with_reducible refine Below.trans ?_ (Below.mono hb5 ?_)) | (with_reducible refine Below.trans ?_ (Below.mono hb6 ?_)) | (with_reducible refine Below.trans ?_ (Below.mono hb7 ?_)) | (with_reducible refine Below.trans ?_ (Below.mono hb8 ?_)) | (with_reducible refine Below.trans ?_ (Below.mono hb9 ?_)) | (focus (first | omega | (simp; done) | (simp; omega))) | exact hB))⟩
  · by_cases c2 : n < 128
    · have e : a / 2 ^ n.toNat % 2 = bits .and .u64 (q1 a / 2 ^ (n % 64).toNat) 1 := by
        rw [pow_add64 n.toNat (n % 64).toNat 64 (by omega) a _ p64]
        exact (key _).symm
      rw [e]
      clear e key
      have d : n / 64 = 1 := by omega
      go_enter Try.func106, Try.ntmps106
      go_wp2
      go_ret
      exact ⟨rfl, (by repeat (first | (with_reducible exact Below.refl _ _) | (with_reducible assumption) | (with_reducible refine Below.drew ?_) | (with_reducible refine Below.alloc ?_ ?_ _) | (with_reducible refine Below.setCell ?_ ?_ _) | (with_reducible refine Below.trans ?_ (Below.mono hb ?_)) | (with_reducible refine Below.trans ?_ (Below.mono hb1 ?_)) | (with_reducible refine Below.trans ?_ (Below.mono hb2 ?_)) | (with_reducible refine Below.trans ?_ (Below.mono hb3 ?_)) | (with_reducible refine Below.trans ?_ (Below.mono hb4 ?_)) | (with_reducible refine Below.trans ?_ (Below.mono hb5 ?_)) | (with_reducible refine Below.trans ?_ (Below.mono hb6 ?_)) | (with_reducible refine Below.trans ?_ (Below.mono hb7 ?_)) | (with_reducible refine Below.trans ?_ (Below.mono hb8 ?_)) | (with_reducible refine Below.trans ?_ (Below.mono hb9 ?_)) | (focus (first | omega | (simp; done) | (simp; omega))) | exact hB))⟩
    · have e : a / 2 ^ n.toNat % 2 = bits .and .u64 (q2 a / 2 ^ (n % 64).toNat) 1 := by
        rw [pow_add64 n.toNat (n % 64).toNat 128 (by omega) a _ p128, show a / 340282366920938463463374607431768211456 = a / 18446744073709551616 / 18446744073709551616 by rw [Int.ediv_ediv_of_nonneg (by omega)]; rfl]
        exact (key _).symm
      rw [e]
      clear e key
      have d : n / 64 = 2 := by omega
      go_enter Try.func106, Try.ntmps106
      go_wp2
      go_ret
      exact ⟨rfl, (by repeat (first | (with_reducible exact Below.refl _ _) | (with_reducible assumption) | (with_reducible refine Below.drew ?_) | (with_reducible refine Below.alloc ?_ ?_ _) | (with_reducible refine Below.setCell ?_ ?_ _) | (with_reducible refine Below.trans ?_ (Below.mono hb ?_)) | (with_reducible refine Below.trans ?_ (Below.mono hb1 ?_)) | (with_reducible refine Below.trans ?_ (Below.mono hb2 ?_)) | (with_reducible refine Below.trans ?_ (Below.mono hb3 ?_)) | (with_reducible refine Below.trans ?_ (Below.mono hb4 ?_)) | (with_reducible refine Below.trans ?_ (Below.mono hb5 ?_)) | (with_reducible refine Below.trans ?_ (Below.mono hb6 ?_)) | (with_reducible refine Below.trans ?_ (Below.mono hb7 ?_)) | (with_reducible refine Below.trans ?_ (Below.mono hb8 ?_)) | (with_reducible refine Below.trans ?_ (Below.mono hb9 ?_)) | (focus (first | omega | (simp; done) | (simp; omega))) | exact hB))⟩
end Go.Proofs.Ytjhepjmggenadaa
