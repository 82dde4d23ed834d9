import Derived.Test.YtjhepjmggenadaaL0
/- Long numbers: down by powers of two. -/
namespace Go.Proofs.Ytjhepjmggenadaa
open Go.RowKit
attribute [local go_sem ↓] Go.wp_at_zero Go.wp_at_succ

set_option maxHeartbeats 2000000 in
theorem downq_any (a n : Int) (ha : In192 a) (h0 : 0 ≤ n) (h1 : n < 192) (w : World) :
    Calls Try.prog 105 #[.agg #[.int .u64 (q0 a), .int .u64 (q1 a), .int .u64 (q2 a)], .int .i64 n] w fun e w' =>
      e = .returned (.agg #[.int .u64 (q0 (a / 2 ^ n.toNat)), .int .u64 (q1 (a / 2 ^ n.toNat)), .int .u64 (q2 (a / 2 ^ n.toNat))]) ∧ Below w.heap.size w w' := by
  obtain ⟨D1, D2, D3⟩ := down_words a ha n.toNat (n % 64).toNat (by omega)
  have hr0 : 0 ≤ n % 64 := by omega
  have hr1 : n % 64 < 64 := by omega
  have hsub : 64 - (n % 64).toNat = (64 - n % 64).toNat := by omega
  rw [hsub] at D1 D2 D3
  have hf : IntKind.u64.wrap (wrap64 (q2 a) / 9223372036854775808) = fillq a := rfl
  by_cases hz : n % 64 = 0
  · have g0 := or_zero64 (q0 a) (q0_u a); have g1 := or_zero64 (q1 a) (q1_u a); have g2 := or_zero64 (q2 a) (q2_u a); have g3 := or_zero64 (fillq a) (fill_u a)
    clear hsub
    rw [hz] at D1 D2 D3
    rw [show ((64 : Int) - 0).toNat = 64 - 0 from rfl, show (0 : Int).toNat = 0 from rfl] at D1 D2 D3
    simp only [g0, g1, g2, g3] at D1 D2 D3
    clear g0 g1 g2 g3
    by_cases c1 : n < 64
    · have d : n / 64 = 0 := by omega
      have E := Lib.hid (D1 (by omega))
      clear D1 D2 D3
      rw [E.out.1, E.out.2.1, E.out.2.2]
      go_enter Try.func105, Try.ntmps105
      go_wp2
      refine wp_loop_rounds 4 ?_
      rw [rounds_succ]
      go_wp2
      rw [rounds_succ]
      go_wp2
      rw [rounds_succ]
      go_wp2
      rw [rounds_succ]
      go_wp2
      refine bodyPost_ret (v := _) ?_ rfl ⟨rfl, (by repeat (first | (with_reducible exact Below.refl _ _) | (with_reducible assumption) | (with_reducible refine Below.drew ?_) | (with_reducible refine Below.alloc ?_ ?_ _) | (with_reducible refine Below.setCell ?_ ?_ _) | (with_reducible refine Below.trans ?_ (Below.mono hb ?_)) | (with_reducible refine Below.trans ?_ (Below.mono hb1 ?_)) | (with_reducible refine Below.trans ?_ (Below.mono hb2 ?_)) | (with_reducible refine Below.trans ?_ (Below.mono hb3 ?_)) | (with_reducible refine Below.trans ?_ (Below.mono hb4 ?_)) | (with_reducible refine Below.trans ?_ (Below.mono hb5 ?_)) | (with_reducible refine Below.trans ?_ (Below.mono hb6 ?_)) | (with_reducible refine Below.trans ?_ (Below.mono hb7 ?_)) | (with_reducible refine Below.trans ?_ (Below.mono hb8 ?_)) | (with_reducible refine Below.trans ?_ (Below.mono hb9 ?_)) | (focus (first | omega | (simp; done) | (simp; omega))) | exact hB))⟩
      simp [results, Try.results105, go_sem]
    · by_cases c2 : n < 128
      · have d : n / 64 = 1 := by omega
        have E := Lib.hid (D2 (by omega))
        clear D1 D2 D3
        rw [E.out.1, E.out.2.1, E.out.2.2]
        go_enter Try.func105, Try.ntmps105
        go_wp2
        refine wp_loop_rounds 4 ?_
        rw [rounds_succ]
        go_wp2
        rw [rounds_succ]
        go_wp2
        rw [rounds_succ]
        go_wp2
        rw [rounds_succ]
        go_wp2
        refine bodyPost_ret (v := _) ?_ rfl ⟨rfl, (by repeat (first | (with_reducible exact Below.refl _ _) | (with_reducible assumption) | (with_reducible refine Below.drew ?_) | (with_reducible refine Below.alloc ?_ ?_ _) | (with_reducible refine Below.setCell ?_ ?_ _) | (with_reducible refine Below.trans ?_ (Below.mono hb ?_)) | (with_reducible refine Below.trans ?_ (Below.mono hb1 ?_)) | (with_reducible refine Below.trans ?_ (Below.mono hb2 ?_)) | (with_reducible refine Below.trans ?_ (Below.mono hb3 ?_)) | (with_reducible refine Below.trans ?_ (Below.mono hb4 ?_)) | (with_reducible refine Below.trans ?_ (Below.mono hb5 ?_)) | (with_reducible refine Below.trans ?_ (Below.mono hb6 ?_)) | (with_reducible refine Below.trans ?_ (Below.mono hb7 ?_)) | (with_reducible refine Below.trans ?_ (Below.mono hb8 ?_)) | (with_reducible refine Below.trans ?_ (Below.mono hb9 ?_)) | (focus (first | omega | (simp; done) | (simp; omega))) | exact hB))⟩
        simp [results, Try.results105, go_sem]
      · have d : n / 64 = 2 := by omega
        have E := Lib.hid (D3 (by omega))
        clear D1 D2 D3
        rw [E.out.1, E.out.2.1, E.out.2.2]
        go_enter Try.func105, Try.ntmps105
        go_wp2
        refine wp_loop_rounds 4 ?_
        rw [rounds_succ]
        go_wp2
        rw [rounds_succ]
        go_wp2
        rw [rounds_succ]
        go_wp2
        rw [rounds_succ]
        go_wp2
        refine bodyPost_ret (v := _) ?_ rfl ⟨rfl, (by repeat (first | (with_reducible exact Below.refl _ _) | (with_reducible assumption) | (with_reducible refine Below.drew ?_) | (with_reducible refine Below.alloc ?_ ?_ _) | (with_reducible refine Below.setCell ?_ ?_ _) | (with_reducible refine Below.trans ?_ (Below.mono hb ?_)) | (with_reducible refine Below.trans ?_ (Below.mono hb1 ?_)) | (with_reducible refine Below.trans ?_ (Below.mono hb2 ?_)) | (with_reducible refine Below.trans ?_ (Below.mono hb3 ?_)) | (with_reducible refine Below.trans ?_ (Below.mono hb4 ?_)) | (with_reducible refine Below.trans ?_ (Below.mono hb5 ?_)) | (with_reducible refine Below.trans ?_ (Below.mono hb6 ?_)) | (with_reducible refine Below.trans ?_ (Below.mono hb7 ?_)) | (with_reducible refine Below.trans ?_ (Below.mono hb8 ?_)) | (with_reducible refine Below.trans ?_ (Below.mono hb9 ?_)) | (focus (first | omega | (simp; done) | (simp; omega))) | exact hB))⟩
        simp [results, Try.results105, go_sem]
  · by_cases c1 : n < 64
    · have d : n / 64 = 0 := by omega
      have E := Lib.hid (D1 (by omega))
      clear D1 D2 D3 hsub
      have hr3 : ¬ n % 64 = 0 := hz
      have hr2 : 0 < n % 64 := by omega
      clear hz
      rw [E.out.1, E.out.2.1, E.out.2.2]
      go_enter Try.func105, Try.ntmps105
      go_wp2
      refine wp_loop_rounds 4 ?_
      rw [rounds_succ]
      go_wp2
      go_region
      go_wp2
      rw [rounds_succ]
      go_wp2
      go_region
      go_wp2
      rw [rounds_succ]
      go_wp2
      go_region
      go_wp2
      rw [rounds_succ]
      go_wp2
      refine bodyPost_ret (v := _) ?_ rfl ⟨rfl, (by repeat (first | (with_reducible exact Below.refl _ _) | (with_reducible assumption) | (with_reducible refine Below.drew ?_) | (with_reducible refine Below.alloc ?_ ?_ _) | (with_reducible refine Below.setCell ?_ ?_ _) | (with_reducible refine Below.trans ?_ (Below.mono hb ?_)) | (with_reducible refine Below.trans ?_ (Below.mono hb1 ?_)) | (with_reducible refine Below.trans ?_ (Below.mono hb2 ?_)) | (with_reducible refine Below.trans ?_ (Below.mono hb3 ?_)) | (with_reducible refine Below.trans ?_ (Below.mono hb4 ?_)) | (with_reducible refine Below.trans ?_ (Below.mono hb5 ?_)) | (with_reducible refine Below.trans ?_ (Below.mono hb6 ?_)) | (with_reducible refine Below.trans ?_ (Below.mono hb7 ?_)) | (with_reducible refine Below.trans ?_ (Below.mono hb8 ?_)) | (with_reducible refine Below.trans ?_ (Below.mono hb9 ?_)) | (focus (first | omega | (simp; done) | (simp; omega))) | exact hB))⟩
      simp [results, Try.results105, go_sem]
    · by_cases c2 : n < 128
      · have d : n / 64 = 1 := by omega
        have E := Lib.hid (D2 (by omega))
        clear D1 D2 D3 hsub
        have hr3 : ¬ n % 64 = 0 := hz
        have hr2 : 0 < n % 64 := by omega
        clear hz
        rw [E.out.1, E.out.2.1, E.out.2.2]
        go_enter Try.func105, Try.ntmps105
        go_wp2
        refine wp_loop_rounds 4 ?_
        rw [rounds_succ]
        go_wp2
        go_region
        go_wp2
        rw [rounds_succ]
        go_wp2
        go_region
        go_wp2
        rw [rounds_succ]
        go_wp2
        go_region
        go_wp2
        rw [rounds_succ]
        go_wp2
        refine bodyPost_ret (v := _) ?_ rfl ⟨rfl, (by repeat (first | (with_reducible exact Below.refl _ _) | (with_reducible assumption) | (with_reducible refine Below.drew ?_) | (with_reducible refine Below.alloc ?_ ?_ _) | (with_reducible refine Below.setCell ?_ ?_ _) | (with_reducible refine Below.trans ?_ (Below.mono hb ?_)) | (with_reducible refine Below.trans ?_ (Below.mono hb1 ?_)) | (with_reducible refine Below.trans ?_ (Below.mono hb2 ?_)) | (with_reducible refine Below.trans ?_ (Below.mono hb3 ?_)) | (with_reducible refine Below.trans ?_ (Below.mono hb4 ?_)) | (with_reducible refine Below.trans ?_ (Below.mono hb5 ?_)) | (with_reducible refine Below.trans ?_ (Below.mono hb6 ?_)) | (with_reducible refine Below.trans ?_ (Below.mono hb7 ?_)) | (with_reducible refine Below.trans ?_ (Below.mono hb8 ?_)) | (with_reducible refine Below.trans ?_ (Below.mono hb9 ?_)) | (focus (first | omega | (simp; done) | (simp; omega))) | exact hB))⟩
        simp [results, Try.results105, go_sem]
      · have d : n / 64 = 2 := by omega
        have E := Lib.hid (D3 (by omega))
        clear D1 D2 D3 hsub
        have hr3 : ¬ n % 64 = 0 := hz
        have hr2 : 0 < n % 64 := by omega
        clear hz
        rw [E.out.1, E.out.2.1, E.out.2.2]
        go_enter Try.func105, Try.ntmps105
        go_wp2
        refine wp_loop_rounds 4 ?_
        rw [rounds_succ]
        go_wp2
        go_region
        go_wp2
        rw [rounds_succ]
        go_wp2
        go_region
        go_wp2
        rw [rounds_succ]
        go_wp2
        go_region
        go_wp2
        rw [rounds_succ]
        go_wp2
        refine bodyPost_ret (v := _) ?_ rfl ⟨rfl, (by repeat (first | (with_reducible exact Below.refl _ _) | (with_reducible assumption) | (with_reducible refine Below.drew ?_) | (with_reducible refine Below.alloc ?_ ?_ _) | (with_reducible refine Below.setCell ?_ ?_ _) | (with_reducible refine Below.trans ?_ (Below.mono hb ?_)) | (with_reducible refine Below.trans ?_ (Below.mono hb1 ?_)) | (with_reducible refine Below.trans ?_ (Below.mono hb2 ?_)) | (with_reducible refine Below.trans ?_ (Below.mono hb3 ?_)) | (with_reducible refine Below.trans ?_ (Below.mono hb4 ?_)) | (with_reducible refine Below.trans ?_ (Below.mono hb5 ?_)) | (with_reducible refine Below.trans ?_ (Below.mono hb6 ?_)) | (with_reducible refine Below.trans ?_ (Below.mono hb7 ?_)) | (with_reducible refine Below.trans ?_ (Below.mono hb8 ?_)) | (with_reducible refine Below.trans ?_ (Below.mono hb9 ?_)) | (focus (first | omega | (simp; done) | (simp; omega))) | exact hB))⟩
        simp [results, Try.results105, go_sem]
end Go.Proofs.Ytjhepjmggenadaa
