import Derived.Test.YtikjomekhnkgcaaW2
import Derived.Test.YtikjomekhnkgcaaMA
import Derived.Deep.QuietTactic
import Derived.BigQuiet
import Derived.RegionTactic
import Derived.BigRegion
import Derived.LoopN
import Derived.Deep.RegionHeld3
/- Long numbers: the smallest methods. -/
namespace Go.Proofs.Ytikjomekhnkgcaa
open Go.RowKit
attribute [local go_sem ↓] Go.wp_at_zero Go.wp_at_succ

theorem open_any (n : Int) (w : World) :
    Calls Try.prog 111 #[.agg #[.int .i64 (tp n), .int .u64 (q1 n), .int .u64 (q0 n)]] w fun e w' =>
      e = .returned (.agg #[.int .u64 (q0 n), .int .u64 (q1 n), .int .u64 (q2 n)]) ∧ Below w.heap.size w w' := by
  have e1 := tp_q2 n
  go_enter Try.func111, Try.ntmps111
  go_wp2
  exact bodyPost_ret (v := .agg #[.int .u64 (q0 n), .int .u64 (q1 n), .int .u64 (q2 n)]) (by simp [results, Try.results111, go_sem]) rfl ⟨rfl, (by repeat (first | (with_reducible exact Below.refl _ _) | (with_reducible assumption) | (with_reducible refine Below.drew ?_) | (with_reducible refine Below.alloc ?_ ?_ _) | (with_reducible refine Below.setCell ?_ ?_ _) | (with_reducible refine Below.trans ?_ (Below.mono hb ?_)) | (with_reducible refine Below.trans ?_ (Below.mono hb1 ?_)) | (with_reducible refine Below.trans ?_ (Below.mono hb2 ?_)) | (with_reducible refine Below.trans ?_ (Below.mono hb3 ?_)) | (with_reducible refine Below.trans ?_ (Below.mono hb4 ?_)) | (with_reducible refine Below.trans ?_ (Below.mono hb5 ?_)) | (with_reducible refine Below.trans ?_ (Below.mono hb6 ?_)) | (with_reducible refine Below.trans ?_ (Below.mono hb7 ?_)) | (with_reducible refine Below.trans ?_ (Below.mono hb8 ?_)) | (with_reducible refine Below.trans ?_ (Below.mono hb9 ?_)) | (focus (first | omega | (simp; done) | (simp; omega))) | exact hB))⟩

theorem shut_any (n : Int) (w : World) :
    Calls Try.prog 118 #[.agg #[.int .u64 (q0 n), .int .u64 (q1 n), .int .u64 (q2 n)]] w fun e w' =>
      e = .returned (.agg #[.int .i64 (tp (w192 n)), .int .u64 (q1 (w192 n)), .int .u64 (q0 (w192 n))]) ∧ Below w.heap.size w w' := by
  obtain ⟨e1, e2, e3⟩ := q_w192 n
  rw [tp_w192, e1, e2]
  clear e1 e2 e3
  go_enter Try.func118, Try.ntmps118
  go_wp2
  exact bodyPost_ret (v := .agg #[.int .i64 (wrap64 (q2 n)), .int .u64 (q1 n), .int .u64 (q0 n)]) (by simp [results, Try.results118, go_sem]) rfl ⟨rfl, (by repeat (first | (with_reducible exact Below.refl _ _) | (with_reducible assumption) | (with_reducible refine Below.drew ?_) | (with_reducible refine Below.alloc ?_ ?_ _) | (with_reducible refine Below.setCell ?_ ?_ _) | (with_reducible refine Below.trans ?_ (Below.mono hb ?_)) | (with_reducible refine Below.trans ?_ (Below.mono hb1 ?_)) | (with_reducible refine Below.trans ?_ (Below.mono hb2 ?_)) | (with_reducible refine Below.trans ?_ (Below.mono hb3 ?_)) | (with_reducible refine Below.trans ?_ (Below.mono hb4 ?_)) | (with_reducible refine Below.trans ?_ (Below.mono hb5 ?_)) | (with_reducible refine Below.trans ?_ (Below.mono hb6 ?_)) | (with_reducible refine Below.trans ?_ (Below.mono hb7 ?_)) | (with_reducible refine Below.trans ?_ (Below.mono hb8 ?_)) | (with_reducible refine Below.trans ?_ (Below.mono hb9 ?_)) | (focus (first | omega | (simp; done) | (simp; omega))) | exact hB))⟩

theorem belowq_any (n : Int) (w : World) :
    Calls Try.prog 112 #[.agg #[.int .u64 (q0 n), .int .u64 (q1 n), .int .u64 (q2 n)]] w fun e w' =>
      e = .returned (.bool (decide (w192 n < 0))) ∧ Below w.heap.size w w' := by
  have e : decide (w192 n < 0) = decide (wrap64 (q2 n) < 0) := by rw [decide_eq_decide]; exact (below_q n).symm
  rw [e]
  clear e
  go_enter Try.func112, Try.ntmps112
  go_wp2
  go_ret
  exact ⟨rfl, (by repeat (first | (with_reducible exact Below.refl _ _) | (with_reducible assumption) | (with_reducible refine Below.drew ?_) | (with_reducible refine Below.alloc ?_ ?_ _) | (with_reducible refine Below.setCell ?_ ?_ _) | (with_reducible refine Below.trans ?_ (Below.mono hb ?_)) | (with_reducible refine Below.trans ?_ (Below.mono hb1 ?_)) | (with_reducible refine Below.trans ?_ (Below.mono hb2 ?_)) | (with_reducible refine Below.trans ?_ (Below.mono hb3 ?_)) | (with_reducible refine Below.trans ?_ (Below.mono hb4 ?_)) | (with_reducible refine Below.trans ?_ (Below.mono hb5 ?_)) | (with_reducible refine Below.trans ?_ (Below.mono hb6 ?_)) | (with_reducible refine Below.trans ?_ (Below.mono hb7 ?_)) | (with_reducible refine Below.trans ?_ (Below.mono hb8 ?_)) | (with_reducible refine Below.trans ?_ (Below.mono hb9 ?_)) | (focus (first | omega | (simp; done) | (simp; omega))) | exact hB))⟩

theorem ext_any (n : Int) (hn : In128 n) (w : World) :
    Calls Try.prog 89 #[.agg #[.int .i64 (hi n), .int .u64 (lo n)]] w fun e w' =>
      e = .returned (.agg #[.int .i64 (tp n), .int .u64 (q1 n), .int .u64 (q0 n)]) ∧ Below w.heap.size w w' := by
  obtain ⟨e1, e2, e3⟩ := ext_q hn
  rw [e1, e2, e3]
  clear e1 e2 e3
  go_enter Try.func89, Try.ntmps89
  go_wp2
  exact bodyPost_ret (v := .agg #[.int .i64 (hi n / 9223372036854775808), .int .u64 (IntKind.u64.wrap (hi n)), .int .u64 (lo n)]) (by simp [results, Try.results89, go_sem]) rfl ⟨rfl, (by repeat (first | (with_reducible exact Below.refl _ _) | (with_reducible assumption) | (with_reducible refine Below.drew ?_) | (with_reducible refine Below.alloc ?_ ?_ _) | (with_reducible refine Below.setCell ?_ ?_ _) | (with_reducible refine Below.trans ?_ (Below.mono hb ?_)) | (with_reducible refine Below.trans ?_ (Below.mono hb1 ?_)) | (with_reducible refine Below.trans ?_ (Below.mono hb2 ?_)) | (with_reducible refine Below.trans ?_ (Below.mono hb3 ?_)) | (with_reducible refine Below.trans ?_ (Below.mono hb4 ?_)) | (with_reducible refine Below.trans ?_ (Below.mono hb5 ?_)) | (with_reducible refine Below.trans ?_ (Below.mono hb6 ?_)) | (with_reducible refine Below.trans ?_ (Below.mono hb7 ?_)) | (with_reducible refine Below.trans ?_ (Below.mono hb8 ?_)) | (with_reducible refine Below.trans ?_ (Below.mono hb9 ?_)) | (focus (first | omega | (simp; done) | (simp; omega))) | exact hB))⟩

theorem clampq_any (n : Int) (hn : In192 n) (w : World) :
    Calls Try.prog 113 #[.agg #[.int .u64 (q0 n), .int .u64 (q1 n), .int .u64 (q2 n)]] w fun e w' =>
      e = .returned (.tuple #[.int .i64 (clampI n), .bool (overI n)]) ∧ Below w.heap.size w w' := by
  have hc := clamp_q0 hn
  by_cases h1 : -9223372036854775808 ≤ n ∧ n ≤ 9223372036854775807
  · obtain ⟨g1, g2⟩ := hc.2 h1
    have e1 : clampI n = wrap64 (q0 n) := by rw [clamp_q1 h1]; unfold clampI; rw [if_neg (by omega), if_neg (by omega)]
    have e2 : overI n = false := by unfold overI; simp; omega
    rw [e1, e2]
    have g1' : (q1 n == IntKind.u64.wrap (wrap64 (q0 n) / 9223372036854775808)) = true := by simpa using g1
    have g2' : (q2 n == IntKind.u64.wrap (wrap64 (q0 n) / 9223372036854775808)) = true := by simpa using g2
    clear hc e1 e2 g1 g2 h1
    go_enter Try.func113, Try.ntmps113
    go_wp2
    go_ret2
    exact ⟨rfl, (by repeat (first | (with_reducible exact Below.refl _ _) | (with_reducible assumption) | (with_reducible refine Below.drew ?_) | (with_reducible refine Below.alloc ?_ ?_ _) | (with_reducible refine Below.setCell ?_ ?_ _) | (with_reducible refine Below.trans ?_ (Below.mono hb ?_)) | (with_reducible refine Below.trans ?_ (Below.mono hb1 ?_)) | (with_reducible refine Below.trans ?_ (Below.mono hb2 ?_)) | (with_reducible refine Below.trans ?_ (Below.mono hb3 ?_)) | (with_reducible refine Below.trans ?_ (Below.mono hb4 ?_)) | (with_reducible refine Below.trans ?_ (Below.mono hb5 ?_)) | (with_reducible refine Below.trans ?_ (Below.mono hb6 ?_)) | (with_reducible refine Below.trans ?_ (Below.mono hb7 ?_)) | (with_reducible refine Below.trans ?_ (Below.mono hb8 ?_)) | (with_reducible refine Below.trans ?_ (Below.mono hb9 ?_)) | (focus (first | omega | (simp; done) | (simp; omega))) | exact hB))⟩
  · have B := Lib.hid (fun W => belowq_any n W)
    have e0 := w192_id hn
    have e2 : overI n = true := by unfold overI; simp; omega
    rw [e0] at B
    rw [e2]
    by_cases g1 : q1 n = IntKind.u64.wrap (wrap64 (q0 n) / 9223372036854775808)
    · have g2 : ¬ q2 n = IntKind.u64.wrap (wrap64 (q0 n) / 9223372036854775808) := fun h => h1 (hc.1 ⟨g1, h⟩)
      have g1' : (q1 n == IntKind.u64.wrap (wrap64 (q0 n) / 9223372036854775808)) = true := by simpa using g1
      have g2' : (q2 n == IntKind.u64.wrap (wrap64 (q0 n) / 9223372036854775808)) = false := by simpa using g2
      by_cases h2 : n < 0
      · have e1 : clampI n = -9223372036854775808 := by unfold clampI; rw [if_pos (by omega)]
        rw [e1]
        have hd : decide (n < 0) = true := by simpa using h2
        rw [hd] at B
        clear hc e0 e1 e2 g1 g2 h1 h2 hd
        go_enter Try.func113, Try.ntmps113
        go_wp2_with (go_at_call 112; refine (B.out _).mono ?_; rintro e w1 ⟨rfl, hb1⟩; obtain ⟨hc1, hf1, hz1⟩ := bcell hb1; (try simp at hz1); (try have : w.heap.size < w1.heap.size := by omega); (try have : w.heap.size + 1 < w1.heap.size := by omega); (try have : w.heap.size + 1 + 1 < w1.heap.size := by omega); (try have : w.heap.size + 1 + 1 + 1 < w1.heap.size := by omega); (try have : g < w1.heap.size := by omega); (try have : ga < w1.heap.size := by omega); (try have : gb < w1.heap.size := by omega); (try have : gc < w1.heap.size := by omega))
        go_ret2
        exact ⟨rfl, (by repeat (first | (with_reducible exact Below.refl _ _) | (with_reducible assumption) | (with_reducible refine Below.drew ?_) | (with_reducible refine Below.alloc ?_ ?_ _) | (with_reducible refine Below.setCell ?_ ?_ _) | (with_reducible refine Below.trans ?_ (Below.mono hb ?_)) | (with_reducible refine Below.trans ?_ (Below.mono hb1 ?_)) | (with_reducible refine Below.trans ?_ (Below.mono hb2 ?_)) | (with_reducible refine Below.trans ?_ (Below.mono hb3 ?_)) | (with_reducible refine Below.trans ?_ (Below.mono hb4 ?_)) | (with_reducible refine Below.trans ?_ (Below.mono hb5 ?_)) | (with_reducible refine Below.trans ?_ (Below.mono hb6 ?_)) | (with_reducible refine Below.trans ?_ (Below.mono hb7 ?_)) | (with_reducible refine Below.trans ?_ (Below.mono hb8 ?_)) | (with_reducible refine Below.trans ?_ (Below.mono hb9 ?_)) | (focus (first | omega | (simp; done) | (simp; omega))) | exact hB))⟩
      · have e1 : clampI n = 9223372036854775807 := by unfold clampI; rw [if_neg (by omega), if_pos (by omega)]
        rw [e1]
        have hd : decide (n < 0) = false := by simpa using h2
        rw [hd] at B
        clear hc e0 e1 e2 g1 g2 h1 h2 hd
        go_enter Try.func113, Try.ntmps113
        go_wp2_with (go_at_call 112; refine (B.out _).mono ?_; rintro e w1 ⟨rfl, hb1⟩; obtain ⟨hc1, hf1, hz1⟩ := bcell hb1; (try simp at hz1); (try have : w.heap.size < w1.heap.size := by omega); (try have : w.heap.size + 1 < w1.heap.size := by omega); (try have : w.heap.size + 1 + 1 < w1.heap.size := by omega); (try have : w.heap.size + 1 + 1 + 1 < w1.heap.size := by omega); (try have : g < w1.heap.size := by omega); (try have : ga < w1.heap.size := by omega); (try have : gb < w1.heap.size := by omega); (try have : gc < w1.heap.size := by omega))
        go_ret2
        exact ⟨rfl, (by repeat (first | (with_reducible exact Below.refl _ _) | (with_reducible assumption) | (with_reducible refine Below.drew ?_) | (with_reducible refine Below.alloc ?_ ?_ _) | (with_reducible refine Below.setCell ?_ ?_ _) | (with_reducible refine Below.trans ?_ (Below.mono hb ?_)) | (with_reducible refine Below.trans ?_ (Below.mono hb1 ?_)) | (with_reducible refine Below.trans ?_ (Below.mono hb2 ?_)) | (with_reducible refine Below.trans ?_ (Below.mono hb3 ?_)) | (with_reducible refine Below.trans ?_ (Below.mono hb4 ?_)) | (with_reducible refine Below.trans ?_ (Below.mono hb5 ?_)) | (with_reducible refine Below.trans ?_ (Below.mono hb6 ?_)) | (with_reducible refine Below.trans ?_ (Below.mono hb7 ?_)) | (with_reducible refine Below.trans ?_ (Below.mono hb8 ?_)) | (with_reducible refine Below.trans ?_ (Below.mono hb9 ?_)) | (focus (first | omega | (simp; done) | (simp; omega))) | exact hB))⟩
    · have g1' : (q1 n == IntKind.u64.wrap (wrap64 (q0 n) / 9223372036854775808)) = false := by simpa using g1
      by_cases h2 : n < 0
      · have e1 : clampI n = -9223372036854775808 := by unfold clampI; rw [if_pos (by omega)]
        rw [e1]
        have hd : decide (n < 0) = true := by simpa using h2
        rw [hd] at B
        clear hc e0 e1 e2 g1 h1 h2 hd
        go_enter Try.func113, Try.ntmps113
        go_wp2_with (go_at_call 112; refine (B.out _).mono ?_; rintro e w1 ⟨rfl, hb1⟩; obtain ⟨hc1, hf1, hz1⟩ := bcell hb1; (try simp at hz1); (try have : w.heap.size < w1.heap.size := by omega); (try have : w.heap.size + 1 < w1.heap.size := by omega); (try have : w.heap.size + 1 + 1 < w1.heap.size := by omega); (try have : w.heap.size + 1 + 1 + 1 < w1.heap.size := by omega); (try have : g < w1.heap.size := by omega); (try have : ga < w1.heap.size := by omega); (try have : gb < w1.heap.size := by omega); (try have : gc < w1.heap.size := by omega))
        go_ret2
        exact ⟨rfl, (by repeat (first | (with_reducible exact Below.refl _ _) | (with_reducible assumption) | (with_reducible refine Below.drew ?_) | (with_reducible refine Below.alloc ?_ ?_ _) | (with_reducible refine Below.setCell ?_ ?_ _) | (with_reducible refine Below.trans ?_ (Below.mono hb ?_)) | (with_reducible refine Below.trans ?_ (Below.mono hb1 ?_)) | (with_reducible refine Below.trans ?_ (Below.mono hb2 ?_)) | (with_reducible refine Below.trans ?_ (Below.mono hb3 ?_)) | (with_reducible refine Below.trans ?_ (Below.mono hb4 ?_)) | (with_reducible refine Below.trans ?_ (Below.mono hb5 ?_)) | (with_reducible refine Below.trans ?_ (Below.mono hb6 ?_)) | (with_reducible refine Below.trans ?_ (Below.mono hb7 ?_)) | (with_reducible refine Below.trans ?_ (Below.mono hb8 ?_)) | (with_reducible refine Below.trans ?_ (Below.mono hb9 ?_)) | (focus (first | omega | (simp; done) | (simp; omega))) | exact hB))⟩
      · have e1 : clampI n = 9223372036854775807 := by unfold clampI; rw [if_neg (by omega), if_pos (by omega)]
        rw [e1]
        have hd : decide (n < 0) = false := by simpa using h2
        rw [hd] at B
        clear hc e0 e1 e2 g1 h1 h2 hd
        go_enter Try.func113, Try.ntmps113
        go_wp2_with (go_at_call 112; refine (B.out _).mono ?_; rintro e w1 ⟨rfl, hb1⟩; obtain ⟨hc1, hf1, hz1⟩ := bcell hb1; (try simp at hz1); (try have : w.heap.size < w1.heap.size := by omega); (try have : w.heap.size + 1 < w1.heap.size := by omega); (try have : w.heap.size + 1 + 1 < w1.heap.size := by omega); (try have : w.heap.size + 1 + 1 + 1 < w1.heap.size := by omega); (try have : g < w1.heap.size := by omega); (try have : ga < w1.heap.size := by omega); (try have : gb < w1.heap.size := by omega); (try have : gc < w1.heap.size := by omega))
        go_ret2
        exact ⟨rfl, (by repeat (first | (with_reducible exact Below.refl _ _) | (with_reducible assumption) | (with_reducible refine Below.drew ?_) | (with_reducible refine Below.alloc ?_ ?_ _) | (with_reducible refine Below.setCell ?_ ?_ _) | (with_reducible refine Below.trans ?_ (Below.mono hb ?_)) | (with_reducible refine Below.trans ?_ (Below.mono hb1 ?_)) | (with_reducible refine Below.trans ?_ (Below.mono hb2 ?_)) | (with_reducible refine Below.trans ?_ (Below.mono hb3 ?_)) | (with_reducible refine Below.trans ?_ (Below.mono hb4 ?_)) | (with_reducible refine Below.trans ?_ (Below.mono hb5 ?_)) | (with_reducible refine Below.trans ?_ (Below.mono hb6 ?_)) | (with_reducible refine Below.trans ?_ (Below.mono hb7 ?_)) | (with_reducible refine Below.trans ?_ (Below.mono hb8 ?_)) | (with_reducible refine Below.trans ?_ (Below.mono hb9 ?_)) | (focus (first | omega | (simp; done) | (simp; omega))) | exact hB))⟩
end Go.Proofs.Ytikjomekhnkgcaa
/- Long numbers: sums. -/
namespace Go.Proofs.Ytikjomekhnkgcaa
open Go.RowKit
attribute [local go_sem ↓] Go.wp_at_zero Go.wp_at_succ

set_option maxHeartbeats 1000000 in
theorem plusq_any (a b : Int) (w : World) :
    Calls Try.prog 117 #[.agg #[.int .u64 (q0 a), .int .u64 (q1 a), .int .u64 (q2 a)], .agg #[.int .u64 (q0 b), .int .u64 (q1 b), .int .u64 (q2 b)]] w fun e w' =>
      e = .returned (.agg #[.int .u64 (q0 (a + b)), .int .u64 (q1 (a + b)), .int .u64 (q2 (a + b))]) ∧ Below w.heap.size w w' := by
  obtain ⟨e1, e2, e3⟩ := add_q a b
  obtain ⟨a0, a0'⟩ := q0_u a; obtain ⟨a1, a1'⟩ := q1_u a; obtain ⟨a2, a2'⟩ := q2_u a
  obtain ⟨b0, b0'⟩ := q0_u b; obtain ⟨b1, b1'⟩ := q1_u b; obtain ⟨b2, b2'⟩ := q2_u b
  rw [e1, e2, e3]
  clear e1 e2 e3
  generalize q0 a = x0 at *; generalize q1 a = x1 at *; generalize q2 a = x2 at *
  generalize q0 b = y0 at *; generalize q1 b = y1 at *; generalize q2 b = y2 at *
  have A0 := Lib.hid (fun W => add64_0 x0 y0 a0 b0 W)
  have A1 := Lib.hid (fun W => add64 x1 y1 ((x0 + y0) / 18446744073709551616) a1 b1 (by omega) (by omega) W)
  have A2 := Lib.hid (fun W => add64 x2 y2 ((x1 + y1 + (x0 + y0) / 18446744073709551616) / 18446744073709551616) a2 b2 (by omega) (by omega) W)
  go_enter Try.func117, Try.ntmps117
  go_wp2
  refine wp_loop_rounds 4 ?_
  rw [rounds_succ]
  go_wp2
  have A0' := A0.out
  go_region
  clear A0'
  go_wp2
  rw [rounds_succ]
  go_wp2
  have A1' := A1.out
  go_region
  clear A1'
  go_wp2
  rw [rounds_succ]
  go_wp2
  have A2' := A2.out
  go_region
  clear A2'
  go_wp2
  rw [rounds_succ]
  go_wp2
  exact bodyPost_ret (v := .agg #[.int .u64 ((x0 + y0) % 18446744073709551616), .int .u64 ((x1 + y1 + (x0 + y0) / 18446744073709551616) % 18446744073709551616),
    .int .u64 ((x2 + y2 + (x1 + y1 + (x0 + y0) / 18446744073709551616) / 18446744073709551616) % 18446744073709551616)]) (by simp [results, Try.results117, go_sem]) rfl ⟨rfl, (by repeat (first | (with_reducible exact Below.refl _ _) | (with_reducible assumption) | (with_reducible refine Below.drew ?_) | (with_reducible refine Below.alloc ?_ ?_ _) | (with_reducible refine Below.setCell ?_ ?_ _) | (with_reducible refine Below.trans ?_ (Below.mono hb ?_)) | (with_reducible refine Below.trans ?_ (Below.mono hb1 ?_)) | (with_reducible refine Below.trans ?_ (Below.mono hb2 ?_)) | (with_reducible refine Below.trans ?_ (Below.mono hb3 ?_)) | (with_reducible refine Below.trans ?_ (Below.mono hb4 ?_)) | (with_reducible refine Below.trans ?_ (Below.mono hb5 ?_)) | (with_reducible refine Below.trans ?_ (Below.mono hb6 ?_)) | (with_reducible refine Below.trans ?_ (Below.mono hb7 ?_)) | (with_reducible refine Below.trans ?_ (Below.mono hb8 ?_)) | (with_reducible refine Below.trans ?_ (Below.mono hb9 ?_)) | (focus (first | omega | (simp; done) | (simp; omega))) | exact hB))⟩

theorem bitq_any (a n : Int) (h0 : 0 ≤ n) (h1 : n < 192) (w : World) :
    Calls Try.prog 115 #[.agg #[.int .u64 (q0 a), .int .u64 (q1 a), .int .u64 (q2 a)], .int .i64 n] w fun e w' =>
      e = .returned (.int .u64 (a / 2 ^ n.toNat % 2)) ∧ Below w.heap.size w w' := by
  have key : ∀ X : Int, bits .and .u64 (X % 18446744073709551616 / 2 ^ (n % 64).toNat) 1 = X / 2 ^ (n % 64).toNat % 2 := by
    intro X
    have hp := pow_pos' (n % 64).toNat
    have hs := pow_split (n % 64).toNat (by omega)
    have h2 : (2 : Int) ^ (64 - (n % 64).toNat) = 2 * 2 ^ (63 - (n % 64).toNat) := by
      rw [show 64 - (n % 64).toNat = 63 - (n % 64).toNat + 1 by omega, Int.pow_succ, Int.mul_comm]
    generalize (2 : Int) ^ (n % 64).toNat = P at *
    generalize (2 : Int) ^ (63 - (n % 64).toNat) = Q at *
    have u : U64 (X % 18446744073709551616 / P) := by
      have h3 := Int.emod_nonneg X (show (18446744073709551616 : Int) ≠ 0 by omega)
      have h4 := Int.emod_lt_of_pos X (show (0 : Int) < 18446744073709551616 by omega)
      have h5 := Int.ediv_le_self P h3
      exact ⟨Int.ediv_nonneg h3 (by omega), by omega⟩
    rw [and_one _ u]
    have h6 := Int.mul_ediv_add_emod X 18446744073709551616
    have h7 : X / P = X % 18446744073709551616 / P + 2 * (Q * (X / 18446744073709551616)) := by
      conv => lhs; rw [← h6, Int.add_comm]
      rw [← hs, h2, Int.mul_assoc P, Int.add_mul_ediv_left _ _ (by omega), Int.mul_assoc]
    omega
  have hr0 : 0 ≤ n % 64 := by omega
  have hr1 : n % 64 < 64 := by omega
  by_cases c1 : n < 64
  · have e : a / 2 ^ n.toNat % 2 = bits .and .u64 (q0 a / 2 ^ (n % 64).toNat) 1 := by
      rw [show (n % 64) = n by omega] at key ⊢
      exact (key a).symm
    rw [e]
    clear e key
    have d : n / 64 = 0 := by omega
    go_enter Try.func115, Try.ntmps115
    go_wp2
    go_ret
    exact ⟨rfl, (by repeat (first | (with_reducible exact Below.refl _ _) | (with_reducible assumption) | (with_reducible refine Below.drew ?_) | (with_reducible refine Below.alloc ?_ ?_ _) | (with_reducible refine Below.setCell ?_ ?_ _) | (with_reducible refine Below.trans ?_ (Below.mono hb ?_)) | (with_reducible refine Below.trans ?_ (Below.mono hb1 ?_)) | (with_reducible refine Below.trans ?_ (Below.mono hb2 ?_)) | (with_reducible refine Below.trans ?_ (Below.mono hb3 ?_)) | (with_reducible refine Below.trans ?_ (Below.mono hb4 ?_)) | (with_reducible refine Below.trans ?_ (Below.mono hb5 ?_)) | (with_reducible refine Below.trans ?_ (Below.mono hb6 ?_)) | (with_reducible refine Below.trans ?_ (Below.mono hb7 ?_)) | (with_reducible refine Below.trans ?_ (Below.mono hb8 ?_)) | (with_reducible refine Below.trans ?_ (Below.mono hb9 ?_)) | (focus (first | omega | (simp; done) | (simp; omega))) | exact hB))⟩
  · by_cases c2 : n < 128
    · have e : a / 2 ^ n.toNat % 2 = bits .and .u64 (q1 a / 2 ^ (n % 64).toNat) 1 := by
        rw [pow_add64 n.toNat (n % 64).toNat 64 (by omega) a _ p64]
        exact (key _).symm
      rw [e]
      clear e key
      have d : n / 64 = 1 := by omega
      go_enter Try.func115, Try.ntmps115
      go_wp2
      go_ret
      exact ⟨rfl, (by repeat (first | (with_reducible exact Below.refl _ _) | (with_reducible assumption) | (with_reducible refine Below.drew ?_) | (with_reducible refine Below.alloc ?_ ?_ _) | (with_reducible refine Below.setCell ?_ ?_ _) | (with_reducible refine Below.trans ?_ (Below.mono hb ?_)) | (with_reducible refine Below.trans ?_ (Below.mono hb1 ?_)) | (with_reducible refine Below.trans ?_ (Below.mono hb2 ?_)) | (with_reducible refine Below.trans ?_ (Below.mono hb3 ?_)) | (with_reducible refine Below.trans ?_ (Below.mono hb4 ?_)) | (with_reducible refine Below.trans ?_ (Below.mono hb5 ?_)) | (with_reducible refine Below.trans ?_ (Below.mono hb6 ?_)) | (with_reducible refine Below.trans ?_ (Below.mono hb7 ?_)) | (with_reducible refine Below.trans ?_ (Below.mono hb8 ?_)) | (with_reducible refine Below.trans ?_ (Below.mono hb9 ?_)) | (focus (first | omega | (simp; done) | (simp; omega))) | exact hB))⟩
    · have e : a / 2 ^ n.toNat % 2 = bits .and .u64 (q2 a / 2 ^ (n % 64).toNat) 1 := by
        rw [pow_add64 n.toNat (n % 64).toNat 128 (by omega) a _ p128, show a / 340282366920938463463374607431768211456 = a / 18446744073709551616 / 18446744073709551616 by rw [Int.ediv_ediv_of_nonneg (by omega)]; rfl]
        exact (key _).symm
      rw [e]
      clear e key
      have d : n / 64 = 2 := by omega
      go_enter Try.func115, Try.ntmps115
      go_wp2
      go_ret
      exact ⟨rfl, (by repeat (first | (with_reducible exact Below.refl _ _) | (with_reducible assumption) | (with_reducible refine Below.drew ?_) | (with_reducible refine Below.alloc ?_ ?_ _) | (with_reducible refine Below.setCell ?_ ?_ _) | (with_reducible refine Below.trans ?_ (Below.mono hb ?_)) | (with_reducible refine Below.trans ?_ (Below.mono hb1 ?_)) | (with_reducible refine Below.trans ?_ (Below.mono hb2 ?_)) | (with_reducible refine Below.trans ?_ (Below.mono hb3 ?_)) | (with_reducible refine Below.trans ?_ (Below.mono hb4 ?_)) | (with_reducible refine Below.trans ?_ (Below.mono hb5 ?_)) | (with_reducible refine Below.trans ?_ (Below.mono hb6 ?_)) | (with_reducible refine Below.trans ?_ (Below.mono hb7 ?_)) | (with_reducible refine Below.trans ?_ (Below.mono hb8 ?_)) | (with_reducible refine Below.trans ?_ (Below.mono hb9 ?_)) | (focus (first | omega | (simp; done) | (simp; omega))) | exact hB))⟩
end Go.Proofs.Ytikjomekhnkgcaa
/- Long numbers: down by powers of two. -/
namespace Go.Proofs.Ytikjomekhnkgcaa
open Go.RowKit
attribute [local go_sem ↓] Go.wp_at_zero Go.wp_at_succ

set_option maxHeartbeats 2000000 in
theorem downq_any (a n : Int) (ha : In192 a) (h0 : 0 ≤ n) (h1 : n < 192) (w : World) :
    Calls Try.prog 114 #[.agg #[.int .u64 (q0 a), .int .u64 (q1 a), .int .u64 (q2 a)], .int .i64 n] w fun e w' =>
      e = .returned (.agg #[.int .u64 (q0 (a / 2 ^ n.toNat)), .int .u64 (q1 (a / 2 ^ n.toNat)), .int .u64 (q2 (a / 2 ^ n.toNat))]) ∧ Below w.heap.size w w' := by
  obtain ⟨D1, D2, D3⟩ := down_words a ha n.toNat (n % 64).toNat (by omega)
  have hr0 : 0 ≤ n % 64 := by omega
  have hr1 : n % 64 < 64 := by omega
  have hsub : 64 - (n % 64).toNat = (64 - n % 64).toNat := by omega
  rw [hsub] at D1 D2 D3
  have hf : IntKind.u64.wrap (wrap64 (q2 a) / 9223372036854775808) = fillq a := rfl
  by_cases hz : n % 64 = 0
  · have g0 := or_zero64 (q0 a) (q0_u a); have g1 := or_zero64 (q1 a) (q1_u a); have g2 := or_zero64 (q2 a) (q2_u a); have g3 := or_zero64 (fillq a) (fill_u a)
    clear hsub
    rw [hz] at D1 D2 D3
    rw [show ((64 : Int) - 0).toNat = 64 - 0 from rfl, show (0 : Int).toNat = 0 from rfl] at D1 D2 D3
    simp only [g0, g1, g2, g3] at D1 D2 D3
    clear g0 g1 g2 g3
    by_cases c1 : n < 64
    · have d : n / 64 = 0 := by omega
      have E := Lib.hid (D1 (by omega))
      clear D1 D2 D3
      rw [E.out.1, E.out.2.1, E.out.2.2]
      go_enter Try.func114, Try.ntmps114
      go_wp2
      refine wp_loop_rounds 4 ?_
      rw [rounds_succ]
      go_wp2
      rw [rounds_succ]
      go_wp2
      rw [rounds_succ]
      go_wp2
      rw [rounds_succ]
      go_wp2
      refine bodyPost_ret (v := _) ?_ rfl ⟨rfl, (by repeat (first | (with_reducible exact Below.refl _ _) | (with_reducible assumption) | (with_reducible refine Below.drew ?_) | (with_reducible refine Below.alloc ?_ ?_ _) | (with_reducible refine Below.setCell ?_ ?_ _) | (with_reducible refine Below.trans ?_ (Below.mono hb ?_)) | (with_reducible refine Below.trans ?_ (Below.mono hb1 ?_)) | (with_reducible refine Below.trans ?_ (Below.mono hb2 ?_)) | (with_reducible refine Below.trans ?_ (Below.mono hb3 ?_)) | (with_reducible refine Below.trans ?_ (Below.mono hb4 ?_)) | (with_reducible refine Below.trans ?_ (Below.mono hb5 ?_)) | (with_reducible refine Below.trans ?_ (Below.mono hb6 ?_)) | (with_reducible refine Below.trans ?_ (Below.mono hb7 ?_)) | (with_reducible refine Below.trans ?_ (Below.mono hb8 ?_)) | (with_reducible refine Below.trans ?_ (Below.mono hb9 ?_)) | (focus (first | omega | (simp; done) | (simp; omega))) | exact hB))⟩
      simp [results, Try.results114, go_sem]
    · by_cases c2 : n < 128
      · have d : n / 64 = 1 := by omega
        have E := Lib.hid (D2 (by omega))
        clear D1 D2 D3
        rw [E.out.1, E.out.2.1, E.out.2.2]
        go_enter Try.func114, Try.ntmps114
        go_wp2
        refine wp_loop_rounds 4 ?_
        rw [rounds_succ]
        go_wp2
        rw [rounds_succ]
        go_wp2
        rw [rounds_succ]
        go_wp2
        rw [rounds_succ]
        go_wp2
        refine bodyPost_ret (v := _) ?_ rfl ⟨rfl, (by repeat (first | (with_reducible exact Below.refl _ _) | (with_reducible assumption) | (with_reducible refine Below.drew ?_) | (with_reducible refine Below.alloc ?_ ?_ _) | (with_reducible refine Below.setCell ?_ ?_ _) | (with_reducible refine Below.trans ?_ (Below.mono hb ?_)) | (with_reducible refine Below.trans ?_ (Below.mono hb1 ?_)) | (with_reducible refine Below.trans ?_ (Below.mono hb2 ?_)) | (with_reducible refine Below.trans ?_ (Below.mono hb3 ?_)) | (with_reducible refine Below.trans ?_ (Below.mono hb4 ?_)) | (with_reducible refine Below.trans ?_ (Below.mono hb5 ?_)) | (with_reducible refine Below.trans ?_ (Below.mono hb6 ?_)) | (with_reducible refine Below.trans ?_ (Below.mono hb7 ?_)) | (with_reducible refine Below.trans ?_ (Below.mono hb8 ?_)) | (with_reducible refine Below.trans ?_ (Below.mono hb9 ?_)) | (focus (first | omega | (simp; done) | (simp; omega))) | exact hB))⟩
        simp [results, Try.results114, go_sem]
      · have d : n / 64 = 2 := by omega
        have E := Lib.hid (D3 (by omega))
        clear D1 D2 D3
        rw [E.out.1, E.out.2.1, E.out.2.2]
        go_enter Try.func114, Try.ntmps114
        go_wp2
        refine wp_loop_rounds 4 ?_
        rw [rounds_succ]
        go_wp2
        rw [rounds_succ]
        go_wp2
        rw [rounds_succ]
        go_wp2
        rw [rounds_succ]
        go_wp2
        refine bodyPost_ret (v := _) ?_ rfl ⟨rfl, (by repeat (first | (with_reducible exact Below.refl _ _) | (with_reducible assumption) | (with_reducible refine Below.drew ?_) | (with_reducible refine Below.alloc ?_ ?_ _) | (with_reducible refine Below.setCell ?_ ?_ _) | (with_reducible refine Below.trans ?_ (Below.mono hb ?_)) | (with_reducible refine Below.trans ?_ (Below.mono hb1 ?_)) | (with_reducible refine Below.trans ?_ (Below.mono hb2 ?_)) | (with_reducible refine Below.trans ?_ (Below.mono hb3 ?_)) | (with_reducible refine Below.trans ?_ (Below.mono hb4 ?_)) | (with_reducible refine Below.trans ?_ (Below.mono hb5 ?_)) | (with_reducible refine Below.trans ?_ (Below.mono hb6 ?_)) | (with_reducible refine Below.trans ?_ (Below.mono hb7 ?_)) | (with_reducible refine Below.trans ?_ (Below.mono hb8 ?_)) | (with_reducible refine Below.trans ?_ (Below.mono hb9 ?_)) | (focus (first | omega | (simp; done) | (simp; omega))) | exact hB))⟩
        simp [results, Try.results114, go_sem]
  · by_cases c1 : n < 64
    · have d : n / 64 = 0 := by omega
      have E := Lib.hid (D1 (by omega))
      clear D1 D2 D3 hsub
      have hr3 : ¬ n % 64 = 0 := hz
      have hr2 : 0 < n % 64 := by omega
      clear hz
      rw [E.out.1, E.out.2.1, E.out.2.2]
      go_enter Try.func114, Try.ntmps114
      go_wp2
      refine wp_loop_rounds 4 ?_
      rw [rounds_succ]
      go_wp2
      go_region
      go_wp2
      rw [rounds_succ]
      go_wp2
      go_region
      go_wp2
      rw [rounds_succ]
      go_wp2
      go_region
      go_wp2
      rw [rounds_succ]
      go_wp2
      refine bodyPost_ret (v := _) ?_ rfl ⟨rfl, (by repeat (first | (with_reducible exact Below.refl _ _) | (with_reducible assumption) | (with_reducible refine Below.drew ?_) | (with_reducible refine Below.alloc ?_ ?_ _) | (with_reducible refine Below.setCell ?_ ?_ _) | (with_reducible refine Below.trans ?_ (Below.mono hb ?_)) | (with_reducible refine Below.trans ?_ (Below.mono hb1 ?_)) | (with_reducible refine Below.trans ?_ (Below.mono hb2 ?_)) | (with_reducible refine Below.trans ?_ (Below.mono hb3 ?_)) | (with_reducible refine Below.trans ?_ (Below.mono hb4 ?_)) | (with_reducible refine Below.trans ?_ (Below.mono hb5 ?_)) | (with_reducible refine Below.trans ?_ (Below.mono hb6 ?_)) | (with_reducible refine Below.trans ?_ (Below.mono hb7 ?_)) | (with_reducible refine Below.trans ?_ (Below.mono hb8 ?_)) | (with_reducible refine Below.trans ?_ (Below.mono hb9 ?_)) | (focus (first | omega | (simp; done) | (simp; omega))) | exact hB))⟩
      simp [results, Try.results114, go_sem]
    · by_cases c2 : n < 128
      · have d : n / 64 = 1 := by omega
        have E := Lib.hid (D2 (by omega))
        clear D1 D2 D3 hsub
        have hr3 : ¬ n % 64 = 0 := hz
        have hr2 : 0 < n % 64 := by omega
        clear hz
        rw [E.out.1, E.out.2.1, E.out.2.2]
        go_enter Try.func114, Try.ntmps114
        go_wp2
        refine wp_loop_rounds 4 ?_
        rw [rounds_succ]
        go_wp2
        go_region
        go_wp2
        rw [rounds_succ]
        go_wp2
        go_region
        go_wp2
        rw [rounds_succ]
        go_wp2
        go_region
        go_wp2
        rw [rounds_succ]
        go_wp2
        refine bodyPost_ret (v := _) ?_ rfl ⟨rfl, (by repeat (first | (with_reducible exact Below.refl _ _) | (with_reducible assumption) | (with_reducible refine Below.drew ?_) | (with_reducible refine Below.alloc ?_ ?_ _) | (with_reducible refine Below.setCell ?_ ?_ _) | (with_reducible refine Below.trans ?_ (Below.mono hb ?_)) | (with_reducible refine Below.trans ?_ (Below.mono hb1 ?_)) | (with_reducible refine Below.trans ?_ (Below.mono hb2 ?_)) | (with_reducible refine Below.trans ?_ (Below.mono hb3 ?_)) | (with_reducible refine Below.trans ?_ (Below.mono hb4 ?_)) | (with_reducible refine Below.trans ?_ (Below.mono hb5 ?_)) | (with_reducible refine Below.trans ?_ (Below.mono hb6 ?_)) | (with_reducible refine Below.trans ?_ (Below.mono hb7 ?_)) | (with_reducible refine Below.trans ?_ (Below.mono hb8 ?_)) | (with_reducible refine Below.trans ?_ (Below.mono hb9 ?_)) | (focus (first | omega | (simp; done) | (simp; omega))) | exact hB))⟩
        simp [results, Try.results114, go_sem]
      · have d : n / 64 = 2 := by omega
        have E := Lib.hid (D3 (by omega))
        clear D1 D2 D3 hsub
        have hr3 : ¬ n % 64 = 0 := hz
        have hr2 : 0 < n % 64 := by omega
        clear hz
        rw [E.out.1, E.out.2.1, E.out.2.2]
        go_enter Try.func114, Try.ntmps114
        go_wp2
        refine wp_loop_rounds 4 ?_
        rw [rounds_succ]
        go_wp2
        go_region
        go_wp2
        rw [rounds_succ]
        go_wp2
        go_region
        go_wp2
        rw [rounds_succ]
        go_wp2
        go_region
        go_wp2
        rw [rounds_succ]
        go_wp2
        refine bodyPost_ret (v := _) ?_ rfl ⟨rfl, (by repeat (first | (with_reducible exact Below.refl _ _) | (with_reducible assumption) | (with_reducible refine Below.drew ?_) | (with_reducible refine Below.alloc ?_ ?_ _) | (with_reducible refine Below.setCell ?_ ?_ _) | (with_reducible refine Below.trans ?_ (Below.mono hb ?_)) | (with_reducible refine Below.trans ?_ (Below.mono hb1 ?_)) | (with_reducible refine Below.trans ?_ (Below.mono hb2 ?_)) | (with_reducible refine Below.trans ?_ (Below.mono hb3 ?_)) | (with_reducible refine Below.trans ?_ (Below.mono hb4 ?_)) | (with_reducible refine Below.trans ?_ (Below.mono hb5 ?_)) | (with_reducible refine Below.trans ?_ (Below.mono hb6 ?_)) | (with_reducible refine Below.trans ?_ (Below.mono hb7 ?_)) | (with_reducible refine Below.trans ?_ (Below.mono hb8 ?_)) | (with_reducible refine Below.trans ?_ (Below.mono hb9 ?_)) | (focus (first | omega | (simp; done) | (simp; omega))) | exact hB))⟩
        simp [results, Try.results114, go_sem]
end Go.Proofs.Ytikjomekhnkgcaa
/- Long numbers: are all bits below a place 0? -/
namespace Go.Proofs.Ytikjomekhnkgcaa
open Go.RowKit

theorem bare_word (x : Int) (k : Int) (h0 : 0 < k) (h1 : k < 64) : (IntKind.u64.wrap (x * 2 ^ (64 - k).toNat) = 0) ↔ x % 2 ^ k.toNat = 0 := by
  have hs := pow_split k.toNat (by omega)
  have hp := pow_pos' k.toNat
  have hr := pow_pos' (64 - k.toNat)
  rw [show (64 - k).toNat = 64 - k.toNat by omega, u64w, ← hs, Int.mul_comm x, Int.mul_comm (2 ^ k.toNat), Int.mul_emod_mul_of_pos _ _ hr]
  constructor
  · intro h
    rcases Int.mul_eq_zero.1 h with h2 | h2
    · omega
    · exact h2
  · intro h; rw [h]; simp
/-- Word by word. -/
theorem bare_iff (a n : Int) (h0 : 0 ≤ n) (h1 : n ≤ 190) :
    (n ≤ 64 → (a % 2 ^ n.toNat = 0 ↔ q0 a % 2 ^ n.toNat = 0)) ∧
    (64 ≤ n → n ≤ 128 → (a % 2 ^ n.toNat = 0 ↔ q0 a = 0 ∧ q1 a % 2 ^ (n - 64).toNat = 0)) ∧
    (128 ≤ n → (a % 2 ^ n.toNat = 0 ↔ q0 a = 0 ∧ q1 a = 0 ∧ q2 a % 2 ^ (n - 128).toNat = 0)) := by
  have key : ∀ (X : Int) (k : Nat), k ≤ 64 → X % 18446744073709551616 % 2 ^ k = X % 2 ^ k := fun X k hk => Int.emod_emod_of_dvd _ ⟨2 ^ (64 - k), (pow_split k hk).symm⟩
  have up : ∀ (X : Int) (k : Nat), (X % (18446744073709551616 * 2 ^ k) = 0 ↔ X % 18446744073709551616 = 0 ∧ X / 18446744073709551616 % 2 ^ k = 0) := by
    intro X k
    have hp := pow_pos' k
    generalize (2 : Int) ^ k = P at *
    have e := Int.mul_ediv_add_emod X 18446744073709551616
    have e2 := Int.mul_ediv_add_emod (X / 18446744073709551616) P
    constructor
    · intro h
      have hd := Int.dvd_of_emod_eq_zero h
      have h3 : X % 18446744073709551616 = 0 := Int.emod_eq_zero_of_dvd (Int.dvd_trans ⟨P, rfl⟩ hd)
      refine ⟨h3, Int.emod_eq_zero_of_dvd ?_⟩
      obtain ⟨c, hc⟩ := hd
      refine ⟨c, ?_⟩
      rw [hc, Int.mul_assoc, Int.mul_ediv_cancel_left _ (by omega)]
    · rintro ⟨h3, h4⟩
      apply Int.emod_eq_zero_of_dvd
      obtain ⟨c, hc⟩ := Int.dvd_of_emod_eq_zero h4
      exact ⟨c, by rw [Int.mul_assoc, ← hc]; omega⟩
  refine ⟨fun h => ?_, fun h2 h3 => ?_, fun h2 => ?_⟩
  · unfold q0; rw [key a _ (by omega)]
  · have e : (2 : Int) ^ n.toNat = 18446744073709551616 * 2 ^ (n - 64).toNat := by
      rw [show n.toNat = 64 + (n - 64).toNat by omega, Int.pow_add, p64]
    rw [e, up]; unfold q0 q1; rw [key _ _ (by omega)]
  · have e : (2 : Int) ^ n.toNat = 18446744073709551616 * 2 ^ (64 + (n - 128).toNat) := by
      rw [show n.toNat = 64 + (64 + (n - 128).toNat) by omega, Int.pow_add, p64]
    have e2 : (2 : Int) ^ (64 + (n - 128).toNat) = 18446744073709551616 * 2 ^ (n - 128).toNat := by rw [Int.pow_add, p64]
    rw [e, up, e2, up]; unfold q0 q1 q2; rw [key _ _ (by omega)]

theorem bne_of {x y : Int} (h : x ≠ y) : (x != y) = true := by simpa using h
theorem bne_no {x y : Int} (h : x = y) : (x != y) = false := by simpa using h

set_option maxHeartbeats 2000000 in
theorem bareq_any (a n : Int) (h0 : 0 ≤ n) (h1 : n ≤ 190) (w : World) :
    Calls Try.prog 116 #[.agg #[.int .u64 (q0 a), .int .u64 (q1 a), .int .u64 (q2 a)], .int .i64 n] w fun e w' =>
      e = .returned (.bool (decide (a % 2 ^ n.toNat = 0))) ∧ Below w.heap.size w w' := by
  obtain ⟨B1, B2, B3⟩ := bare_iff a n h0 h1
  by_cases c0 : n = 0
  · have e : decide (a % 2 ^ n.toNat = 0) = true := by rw [c0]; simp
    rw [e]
    clear e B1 B2 B3
    subst c0
    go_enter Try.func116, Try.ntmps116
    go_wp2
    refine wp_loop_rounds 4 ?_
    repeat any_goals (rw [rounds_succ]; go_wp2)
    go_ret
    exact ⟨rfl, (by repeat (first | (with_reducible exact Below.refl _ _) | (with_reducible assumption) | (with_reducible refine Below.drew ?_) | (with_reducible refine Below.alloc ?_ ?_ _) | (with_reducible refine Below.setCell ?_ ?_ _) | (with_reducible refine Below.trans ?_ (Below.mono hb ?_)) | (with_reducible refine Below.trans ?_ (Below.mono hb1 ?_)) | (with_reducible refine Below.trans ?_ (Below.mono hb2 ?_)) | (with_reducible refine Below.trans ?_ (Below.mono hb3 ?_)) | (with_reducible refine Below.trans ?_ (Below.mono hb4 ?_)) | (with_reducible refine Below.trans ?_ (Below.mono hb5 ?_)) | (with_reducible refine Below.trans ?_ (Below.mono hb6 ?_)) | (with_reducible refine Below.trans ?_ (Below.mono hb7 ?_)) | (with_reducible refine Below.trans ?_ (Below.mono hb8 ?_)) | (with_reducible refine Below.trans ?_ (Below.mono hb9 ?_)) | (focus (first | omega | (simp; done) | (simp; omega))) | exact hB))⟩
  by_cases c1 : n < 64
  · have hb := bare_word (q0 a) n (by omega) c1
    have hd : decide (a % 2 ^ n.toNat = 0) = decide (IntKind.u64.wrap (q0 a * 2 ^ (64 - n).toNat) = 0) := by rw [decide_eq_decide, B1 (by omega), hb]
    rw [hd]
    clear hd B1 B2 B3
    have hn : 0 < n := by omega
    by_cases t : IntKind.u64.wrap (q0 a * 2 ^ (64 - n).toNat) = 0
    · have t1 := bne_no t
      rw [decide_eq_true t]
      clear t hb c0
      go_enter Try.func116, Try.ntmps116
      go_wp2
      refine wp_loop_rounds 4 ?_
      repeat any_goals (rw [rounds_succ]; go_wp2)
      go_ret
      exact ⟨rfl, (by repeat (first | (with_reducible exact Below.refl _ _) | (with_reducible assumption) | (with_reducible refine Below.drew ?_) | (with_reducible refine Below.alloc ?_ ?_ _) | (with_reducible refine Below.setCell ?_ ?_ _) | (with_reducible refine Below.trans ?_ (Below.mono hb ?_)) | (with_reducible refine Below.trans ?_ (Below.mono hb1 ?_)) | (with_reducible refine Below.trans ?_ (Below.mono hb2 ?_)) | (with_reducible refine Below.trans ?_ (Below.mono hb3 ?_)) | (with_reducible refine Below.trans ?_ (Below.mono hb4 ?_)) | (with_reducible refine Below.trans ?_ (Below.mono hb5 ?_)) | (with_reducible refine Below.trans ?_ (Below.mono hb6 ?_)) | (with_reducible refine Below.trans ?_ (Below.mono hb7 ?_)) | (with_reducible refine Below.trans ?_ (Below.mono hb8 ?_)) | (with_reducible refine Below.trans ?_ (Below.mono hb9 ?_)) | (focus (first | omega | (simp; done) | (simp; omega))) | exact hB))⟩
    · have t1 := bne_of t
      rw [decide_eq_false t]
      clear t hb c0
      go_enter Try.func116, Try.ntmps116
      go_wp2
      refine wp_loop_rounds 4 ?_
      repeat any_goals (rw [rounds_succ]; go_wp2)
      go_ret
      exact ⟨rfl, (by repeat (first | (with_reducible exact Below.refl _ _) | (with_reducible assumption) | (with_reducible refine Below.drew ?_) | (with_reducible refine Below.alloc ?_ ?_ _) | (with_reducible refine Below.setCell ?_ ?_ _) | (with_reducible refine Below.trans ?_ (Below.mono hb ?_)) | (with_reducible refine Below.trans ?_ (Below.mono hb1 ?_)) | (with_reducible refine Below.trans ?_ (Below.mono hb2 ?_)) | (with_reducible refine Below.trans ?_ (Below.mono hb3 ?_)) | (with_reducible refine Below.trans ?_ (Below.mono hb4 ?_)) | (with_reducible refine Below.trans ?_ (Below.mono hb5 ?_)) | (with_reducible refine Below.trans ?_ (Below.mono hb6 ?_)) | (with_reducible refine Below.trans ?_ (Below.mono hb7 ?_)) | (with_reducible refine Below.trans ?_ (Below.mono hb8 ?_)) | (with_reducible refine Below.trans ?_ (Below.mono hb9 ?_)) | (focus (first | omega | (simp; done) | (simp; omega))) | exact hB))⟩
  by_cases z0 : q0 a = 0
  · have z0' := bne_no z0
    by_cases c2 : n < 128
    · obtain ⟨m, hm⟩ : ∃ m, n - 64 = m := ⟨_, rfl⟩
      have hd : decide (a % 2 ^ n.toNat = 0) = decide (q1 a % 2 ^ m.toNat = 0) := by rw [decide_eq_decide, B2 (by omega) (by omega), hm]; simp [z0]
      rw [hd]
      clear hd B1 B2 B3
      by_cases m0 : m = 0
      · have e : decide (q1 a % 2 ^ m.toNat = 0) = true := by rw [m0]; simp
        rw [e]
        obtain rfl : n = 64 := by omega
        clear e m0 hm c0 c1 c2 z0
        go_enter Try.func116, Try.ntmps116
        go_wp2
        refine wp_loop_rounds 4 ?_
        repeat any_goals (rw [rounds_succ]; go_wp2)
        go_ret
        exact ⟨rfl, (by repeat (first | (with_reducible exact Below.refl _ _) | (with_reducible assumption) | (with_reducible refine Below.drew ?_) | (with_reducible refine Below.alloc ?_ ?_ _) | (with_reducible refine Below.setCell ?_ ?_ _) | (with_reducible refine Below.trans ?_ (Below.mono hb ?_)) | (with_reducible refine Below.trans ?_ (Below.mono hb1 ?_)) | (with_reducible refine Below.trans ?_ (Below.mono hb2 ?_)) | (with_reducible refine Below.trans ?_ (Below.mono hb3 ?_)) | (with_reducible refine Below.trans ?_ (Below.mono hb4 ?_)) | (with_reducible refine Below.trans ?_ (Below.mono hb5 ?_)) | (with_reducible refine Below.trans ?_ (Below.mono hb6 ?_)) | (with_reducible refine Below.trans ?_ (Below.mono hb7 ?_)) | (with_reducible refine Below.trans ?_ (Below.mono hb8 ?_)) | (with_reducible refine Below.trans ?_ (Below.mono hb9 ?_)) | (focus (first | omega | (simp; done) | (simp; omega))) | exact hB))⟩
      · have hb := bare_word (q1 a) m (by omega) (by omega)
        rw [decide_eq_decide.2 hb.symm]
        have hn : 0 < m := by omega
        have hn2 : m < 64 := by omega
        have c3 : 64 < n := by omega
        by_cases t : IntKind.u64.wrap (q1 a * 2 ^ (64 - m).toNat) = 0
        · have t1 := bne_no t
          rw [decide_eq_true t]
          clear t hb c0 c1 z0 m0
          go_enter Try.func116, Try.ntmps116
          go_wp2
          refine wp_loop_rounds 4 ?_
          repeat any_goals (rw [rounds_succ]; go_wp2)
          go_ret
          exact ⟨rfl, (by repeat (first | (with_reducible exact Below.refl _ _) | (with_reducible assumption) | (with_reducible refine Below.drew ?_) | (with_reducible refine Below.alloc ?_ ?_ _) | (with_reducible refine Below.setCell ?_ ?_ _) | (with_reducible refine Below.trans ?_ (Below.mono hb ?_)) | (with_reducible refine Below.trans ?_ (Below.mono hb1 ?_)) | (with_reducible refine Below.trans ?_ (Below.mono hb2 ?_)) | (with_reducible refine Below.trans ?_ (Below.mono hb3 ?_)) | (with_reducible refine Below.trans ?_ (Below.mono hb4 ?_)) | (with_reducible refine Below.trans ?_ (Below.mono hb5 ?_)) | (with_reducible refine Below.trans ?_ (Below.mono hb6 ?_)) | (with_reducible refine Below.trans ?_ (Below.mono hb7 ?_)) | (with_reducible refine Below.trans ?_ (Below.mono hb8 ?_)) | (with_reducible refine Below.trans ?_ (Below.mono hb9 ?_)) | (focus (first | omega | (simp; done) | (simp; omega))) | exact hB))⟩
        · have t1 := bne_of t
          rw [decide_eq_false t]
          clear t hb c0 c1 z0 m0
          go_enter Try.func116, Try.ntmps116
          go_wp2
          refine wp_loop_rounds 4 ?_
          repeat any_goals (rw [rounds_succ]; go_wp2)
          go_ret
          exact ⟨rfl, (by repeat (first | (with_reducible exact Below.refl _ _) | (with_reducible assumption) | (with_reducible refine Below.drew ?_) | (with_reducible refine Below.alloc ?_ ?_ _) | (with_reducible refine Below.setCell ?_ ?_ _) | (with_reducible refine Below.trans ?_ (Below.mono hb ?_)) | (with_reducible refine Below.trans ?_ (Below.mono hb1 ?_)) | (with_reducible refine Below.trans ?_ (Below.mono hb2 ?_)) | (with_reducible refine Below.trans ?_ (Below.mono hb3 ?_)) | (with_reducible refine Below.trans ?_ (Below.mono hb4 ?_)) | (with_reducible refine Below.trans ?_ (Below.mono hb5 ?_)) | (with_reducible refine Below.trans ?_ (Below.mono hb6 ?_)) | (with_reducible refine Below.trans ?_ (Below.mono hb7 ?_)) | (with_reducible refine Below.trans ?_ (Below.mono hb8 ?_)) | (with_reducible refine Below.trans ?_ (Below.mono hb9 ?_)) | (focus (first | omega | (simp; done) | (simp; omega))) | exact hB))⟩
    · by_cases z1 : q1 a = 0
      · have z1' := bne_no z1
        obtain ⟨m, hm⟩ : ∃ m, n - 128 = m := ⟨_, rfl⟩
        have hd : decide (a % 2 ^ n.toNat = 0) = decide (q2 a % 2 ^ m.toNat = 0) := by rw [decide_eq_decide, B3 (by omega), hm]; simp [z0, z1]
        rw [hd]
        clear hd B1 B2 B3
        by_cases m0 : m = 0
        · have e : decide (q2 a % 2 ^ m.toNat = 0) = true := by rw [m0]; simp
          rw [e]
          obtain rfl : n = 128 := by omega
          clear e m0 hm c0 c1 c2 z0 z1
          go_enter Try.func116, Try.ntmps116
          go_wp2
          refine wp_loop_rounds 4 ?_
          repeat any_goals (rw [rounds_succ]; go_wp2)
          go_ret
          exact ⟨rfl, (by repeat (first | (with_reducible exact Below.refl _ _) | (with_reducible assumption) | (with_reducible refine Below.drew ?_) | (with_reducible refine Below.alloc ?_ ?_ _) | (with_reducible refine Below.setCell ?_ ?_ _) | (with_reducible refine Below.trans ?_ (Below.mono hb ?_)) | (with_reducible refine Below.trans ?_ (Below.mono hb1 ?_)) | (with_reducible refine Below.trans ?_ (Below.mono hb2 ?_)) | (with_reducible refine Below.trans ?_ (Below.mono hb3 ?_)) | (with_reducible refine Below.trans ?_ (Below.mono hb4 ?_)) | (with_reducible refine Below.trans ?_ (Below.mono hb5 ?_)) | (with_reducible refine Below.trans ?_ (Below.mono hb6 ?_)) | (with_reducible refine Below.trans ?_ (Below.mono hb7 ?_)) | (with_reducible refine Below.trans ?_ (Below.mono hb8 ?_)) | (with_reducible refine Below.trans ?_ (Below.mono hb9 ?_)) | (focus (first | omega | (simp; done) | (simp; omega))) | exact hB))⟩
        · have hb := bare_word (q2 a) m (by omega) (by omega)
          rw [decide_eq_decide.2 hb.symm]
          have hn : 0 < m := by omega
          have hn2 : m < 64 := by omega
          have c3 : 128 < n := by omega
          by_cases t : IntKind.u64.wrap (q2 a * 2 ^ (64 - m).toNat) = 0
          · have t1 := bne_no t
            rw [decide_eq_true t]
            clear t hb c0 c1 c2 z0 z1 m0
            go_enter Try.func116, Try.ntmps116
            go_wp2
            refine wp_loop_rounds 4 ?_
            repeat any_goals (rw [rounds_succ]; go_wp2)
            go_ret
            exact ⟨rfl, (by repeat (first | (with_reducible exact Below.refl _ _) | (with_reducible assumption) | (with_reducible refine Below.drew ?_) | (with_reducible refine Below.alloc ?_ ?_ _) | (with_reducible refine Below.setCell ?_ ?_ _) | (with_reducible refine Below.trans ?_ (Below.mono hb ?_)) | (with_reducible refine Below.trans ?_ (Below.mono hb1 ?_)) | (with_reducible refine Below.trans ?_ (Below.mono hb2 ?_)) | (with_reducible refine Below.trans ?_ (Below.mono hb3 ?_)) | (with_reducible refine Below.trans ?_ (Below.mono hb4 ?_)) | (with_reducible refine Below.trans ?_ (Below.mono hb5 ?_)) | (with_reducible refine Below.trans ?_ (Below.mono hb6 ?_)) | (with_reducible refine Below.trans ?_ (Below.mono hb7 ?_)) | (with_reducible refine Below.trans ?_ (Below.mono hb8 ?_)) | (with_reducible refine Below.trans ?_ (Below.mono hb9 ?_)) | (focus (first | omega | (simp; done) | (simp; omega))) | exact hB))⟩
          · have t1 := bne_of t
            rw [decide_eq_false t]
            clear t hb c0 c1 c2 z0 z1 m0
            go_enter Try.func116, Try.ntmps116
            go_wp2
            refine wp_loop_rounds 4 ?_
            repeat any_goals (rw [rounds_succ]; go_wp2)
            go_ret
            exact ⟨rfl, (by repeat (first | (with_reducible exact Below.refl _ _) | (with_reducible assumption) | (with_reducible refine Below.drew ?_) | (with_reducible refine Below.alloc ?_ ?_ _) | (with_reducible refine Below.setCell ?_ ?_ _) | (with_reducible refine Below.trans ?_ (Below.mono hb ?_)) | (with_reducible refine Below.trans ?_ (Below.mono hb1 ?_)) | (with_reducible refine Below.trans ?_ (Below.mono hb2 ?_)) | (with_reducible refine Below.trans ?_ (Below.mono hb3 ?_)) | (with_reducible refine Below.trans ?_ (Below.mono hb4 ?_)) | (with_reducible refine Below.trans ?_ (Below.mono hb5 ?_)) | (with_reducible refine Below.trans ?_ (Below.mono hb6 ?_)) | (with_reducible refine Below.trans ?_ (Below.mono hb7 ?_)) | (with_reducible refine Below.trans ?_ (Below.mono hb8 ?_)) | (with_reducible refine Below.trans ?_ (Below.mono hb9 ?_)) | (focus (first | omega | (simp; done) | (simp; omega))) | exact hB))⟩
      · have e : decide (a % 2 ^ n.toNat = 0) = false := by rw [decide_eq_false_iff_not, B3 (by omega)]; simp [z1]
        rw [e]
        have z1' := bne_of z1
        have c3 : 64 ≤ n - 64 := by omega
        clear e B1 B2 B3 z0 z1 c0
        go_enter Try.func116, Try.ntmps116
        go_wp2
        refine wp_loop_rounds 4 ?_
        repeat any_goals (rw [rounds_succ]; go_wp2)
        go_ret
        exact ⟨rfl, (by repeat (first | (with_reducible exact Below.refl _ _) | (with_reducible assumption) | (with_reducible refine Below.drew ?_) | (with_reducible refine Below.alloc ?_ ?_ _) | (with_reducible refine Below.setCell ?_ ?_ _) | (with_reducible refine Below.trans ?_ (Below.mono hb ?_)) | (with_reducible refine Below.trans ?_ (Below.mono hb1 ?_)) | (with_reducible refine Below.trans ?_ (Below.mono hb2 ?_)) | (with_reducible refine Below.trans ?_ (Below.mono hb3 ?_)) | (with_reducible refine Below.trans ?_ (Below.mono hb4 ?_)) | (with_reducible refine Below.trans ?_ (Below.mono hb5 ?_)) | (with_reducible refine Below.trans ?_ (Below.mono hb6 ?_)) | (with_reducible refine Below.trans ?_ (Below.mono hb7 ?_)) | (with_reducible refine Below.trans ?_ (Below.mono hb8 ?_)) | (with_reducible refine Below.trans ?_ (Below.mono hb9 ?_)) | (focus (first | omega | (simp; done) | (simp; omega))) | exact hB))⟩
  · have e : decide (a % 2 ^ n.toNat = 0) = false := by
      rw [decide_eq_false_iff_not]
      by_cases c2 : n ≤ 128
      · rw [B2 (by omega) c2]; simp [z0]
      · rw [B3 (by omega)]; simp [z0]
    rw [e]
    have z0' := bne_of z0
    clear e B1 B2 B3 z0 c0
    go_enter Try.func116, Try.ntmps116
    go_wp2
    refine wp_loop_rounds 4 ?_
    repeat any_goals (rw [rounds_succ]; go_wp2)
    go_ret
    exact ⟨rfl, (by repeat (first | (with_reducible exact Below.refl _ _) | (with_reducible assumption) | (with_reducible refine Below.drew ?_) | (with_reducible refine Below.alloc ?_ ?_ _) | (with_reducible refine Below.setCell ?_ ?_ _) | (with_reducible refine Below.trans ?_ (Below.mono hb ?_)) | (with_reducible refine Below.trans ?_ (Below.mono hb1 ?_)) | (with_reducible refine Below.trans ?_ (Below.mono hb2 ?_)) | (with_reducible refine Below.trans ?_ (Below.mono hb3 ?_)) | (with_reducible refine Below.trans ?_ (Below.mono hb4 ?_)) | (with_reducible refine Below.trans ?_ (Below.mono hb5 ?_)) | (with_reducible refine Below.trans ?_ (Below.mono hb6 ?_)) | (with_reducible refine Below.trans ?_ (Below.mono hb7 ?_)) | (with_reducible refine Below.trans ?_ (Below.mono hb8 ?_)) | (with_reducible refine Below.trans ?_ (Below.mono hb9 ?_)) | (focus (first | omega | (simp; done) | (simp; omega))) | exact hB))⟩
end Go.Proofs.Ytikjomekhnkgcaa
