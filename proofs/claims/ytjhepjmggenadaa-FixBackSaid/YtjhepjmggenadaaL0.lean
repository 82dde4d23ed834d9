import Derived.Test.YtjhepjmggenadaaW2
import Derived.Test.YtjhepjmggenadaaLong
import Derived.Test.YtjhepjmggenadaaDiv
import Derived.Deep.QuietTactic
import Derived.BigQuiet
import Derived.RegionTactic
import Derived.BigRegion
import Derived.LoopN
import Derived.Deep.RegionHeld3
/- Long numbers: the smallest methods. -/
namespace Go.Proofs.Ytjhepjmggenadaa
open Go.RowKit
attribute [local go_sem ↓] Go.wp_at_zero Go.wp_at_succ

theorem open_any (n : Int) (w : World) :
    Calls Try.prog 89 #[.agg #[.int .i64 (tp n), .int .u64 (q1 n), .int .u64 (q0 n)]] w fun e w' =>
      e = .returned (.agg #[.int .u64 (q0 n), .int .u64 (q1 n), .int .u64 (q2 n)]) ∧ Below w.heap.size w w' := by
  have e1 := tp_q2 n
  go_enter Try.func89, Try.ntmps89
  go_wp2
  exact bodyPost_ret (v := .agg #[.int .u64 (q0 n), .int .u64 (q1 n), .int .u64 (q2 n)]) (by simp [results, Try.results89, go_sem]) rfl ⟨rfl, (by repeat (first | (with_reducible exact Below.refl _ _) | (with_reducible assumption) | (with_reducible refine Below.drew ?_) | (with_reducible refine Below.alloc ?_ ?_ _) | (with_reducible refine Below.setCell ?_ ?_ _) | (with_reducible refine Below.trans ?_ (Below.mono hb ?_)) | (with_reducible refine Below.trans ?_ (Below.mono hb1 ?_)) | (with_reducible refine Below.trans ?_ (Below.mono hb2 ?_)) | (with_reducible refine Below.trans ?_ (Below.mono hb3 ?_)) | (with_reducible refine Below.trans ?_ (Below.mono hb4 ?_)) | (with_reducible refine Below.trans ?_ (Below.mono hb5 ?_)) | (with_reducible refine Below.trans ?_ (Below.mono hb6 ?_)) | (with_reducible refine Below.trans ?_ (Below.mono hb7 ?_)) | (with_reducible refine Below.trans ?_ (Below.mono hb8 ?_)) | (with_reducible refine Below.trans ?_ (Below.mono hb9 ?_)) | (focus (first | omega | (simp; done) | (simp; omega))) | exact hB))⟩

theorem belowq_any (n : Int) (w : World) :
    Calls Try.prog 90 #[.agg #[.int .u64 (q0 n), .int .u64 (q1 n), .int .u64 (q2 n)]] w fun e w' =>
      e = .returned (.bool (decide (w192 n < 0))) ∧ Below w.heap.size w w' := by
  have e : decide (w192 n < 0) = decide (wrap64 (q2 n) < 0) := by rw [decide_eq_decide]; exact (below_q n).symm
  rw [e]
  clear e
  go_enter Try.func90, Try.ntmps90
  go_wp2
  go_ret
  exact ⟨rfl, (by repeat (first | (with_reducible exact Below.refl _ _) | (with_reducible assumption) | (with_reducible refine Below.drew ?_) | (with_reducible refine Below.alloc ?_ ?_ _) | (with_reducible refine Below.setCell ?_ ?_ _) | (with_reducible refine Below.trans ?_ (Below.mono hb ?_)) | (with_reducible refine Below.trans ?_ (Below.mono hb1 ?_)) | (with_reducible refine Below.trans ?_ (Below.mono hb2 ?_)) | (with_reducible refine Below.trans ?_ (Below.mono hb3 ?_)) | (with_reducible refine Below.trans ?_ (Below.mono hb4 ?_)) | (with_reducible refine Below.trans ?_ (Below.mono hb5 ?_)) | (with_reducible refine Below.trans ?_ (Below.mono hb6 ?_)) | (with_reducible refine Below.trans ?_ (Below.mono hb7 ?_)) | (with_reducible refine Below.trans ?_ (Below.mono hb8 ?_)) | (with_reducible refine Below.trans ?_ (Below.mono hb9 ?_)) | (focus (first | omega | (simp; done) | (simp; omega))) | exact hB))⟩

theorem ext_any (n : Int) (hn : In128 n) (w : World) :
    Calls Try.prog 53 #[.agg #[.int .i64 (hi n), .int .u64 (lo n)]] w fun e w' =>
      e = .returned (.agg #[.int .i64 (tp n), .int .u64 (q1 n), .int .u64 (q0 n)]) ∧ Below w.heap.size w w' := by
  obtain ⟨e1, e2, e3⟩ := ext_q hn
  rw [e1, e2, e3]
  clear e1 e2 e3
  go_enter Try.func53, Try.ntmps53
  go_wp2
  exact bodyPost_ret (v := .agg #[.int .i64 (hi n / 9223372036854775808), .int .u64 (IntKind.u64.wrap (hi n)), .int .u64 (lo n)]) (by simp [results, Try.results53, go_sem]) rfl ⟨rfl, (by repeat (first | (with_reducible exact Below.refl _ _) | (with_reducible assumption) | (with_reducible refine Below.drew ?_) | (with_reducible refine Below.alloc ?_ ?_ _) | (with_reducible refine Below.setCell ?_ ?_ _) | (with_reducible refine Below.trans ?_ (Below.mono hb ?_)) | (with_reducible refine Below.trans ?_ (Below.mono hb1 ?_)) | (with_reducible refine Below.trans ?_ (Below.mono hb2 ?_)) | (with_reducible refine Below.trans ?_ (Below.mono hb3 ?_)) | (with_reducible refine Below.trans ?_ (Below.mono hb4 ?_)) | (with_reducible refine Below.trans ?_ (Below.mono hb5 ?_)) | (with_reducible refine Below.trans ?_ (Below.mono hb6 ?_)) | (with_reducible refine Below.trans ?_ (Below.mono hb7 ?_)) | (with_reducible refine Below.trans ?_ (Below.mono hb8 ?_)) | (with_reducible refine Below.trans ?_ (Below.mono hb9 ?_)) | (focus (first | omega | (simp; done) | (simp; omega))) | exact hB))⟩

theorem clampq_any (n : Int) (hn : In192 n) (w : World) :
    Calls Try.prog 104 #[.agg #[.int .u64 (q0 n), .int .u64 (q1 n), .int .u64 (q2 n)]] w fun e w' =>
      e = .returned (.tuple #[.int .i64 (clampI n), .bool (overI n)]) ∧ Below w.heap.size w w' := by
  have hc := clamp_q0 hn
  by_cases h1 : -9223372036854775808 ≤ n ∧ n ≤ 9223372036854775807
  · obtain ⟨g1, g2⟩ := hc.2 h1
    have e1 : clampI n = wrap64 (q0 n) := by rw [clamp_q1 h1]; unfold clampI; rw [if_neg (by omega), if_neg (by omega)]
    have e2 : overI n = false := by unfold overI; simp; omega
    rw [e1, e2]
    have g1' : (q1 n == IntKind.u64.wrap (wrap64 (q0 n) / 9223372036854775808)) = true := by simpa using g1
    have g2' : (q2 n == IntKind.u64.wrap (wrap64 (q0 n) / 9223372036854775808)) = true := by simpa using g2
    clear hc e1 e2 g1 g2 h1
    go_enter Try.func104, Try.ntmps104
    go_wp2
    go_ret2
    exact ⟨rfl, (by repeat (first | (with_reducible exact Below.refl _ _) | (with_reducible assumption) | (with_reducible refine Below.drew ?_) | (with_reducible refine Below.alloc ?_ ?_ _) | (with_reducible refine Below.setCell ?_ ?_ _) | (with_reducible refine Below.trans ?_ (Below.mono hb ?_)) | (with_reducible refine Below.trans ?_ (Below.mono hb1 ?_)) | (with_reducible refine Below.trans ?_ (Below.mono hb2 ?_)) | (with_reducible refine Below.trans ?_ (Below.mono hb3 ?_)) | (with_reducible refine Below.trans ?_ (Below.mono hb4 ?_)) | (with_reducible refine Below.trans ?_ (Below.mono hb5 ?_)) | (with_reducible refine Below.trans ?_ (Below.mono hb6 ?_)) | (with_reducible refine Below.trans ?_ (Below.mono hb7 ?_)) | (with_reducible refine Below.trans ?_ (Below.mono hb8 ?_)) | (with_reducible refine Below.trans ?_ (Below.mono hb9 ?_)) | (focus (first | omega | (simp; done) | (simp; omega))) | exact hB))⟩
  · have B := Lib.hid (fun W => belowq_any n W)
    have e0 := w192_id hn
    have e2 : overI n = true := by unfold overI; simp; omega
    rw [e0] at B
    rw [e2]
    by_cases g1 : q1 n = IntKind.u64.wrap (wrap64 (q0 n) / 9223372036854775808)
    · have g2 : ¬ q2 n = IntKind.u64.wrap (wrap64 (q0 n) / 9223372036854775808) := fun h => h1 (hc.1 ⟨g1, h⟩)
      have g1' : (q1 n == IntKind.u64.wrap (wrap64 (q0 n) / 9223372036854775808)) = true := by simpa using g1
      have g2' : (q2 n == IntKind.u64.wrap (wrap64 (q0 n) / 9223372036854775808)) = false := by simpa using g2
      by_cases h2 : n < 0
      · have e1 : clampI n = -9223372036854775808 := by unfold clampI; rw [if_pos (by omega)]
        rw [e1]
        have hd : decide (n < 0) = true := by simpa using h2
        rw [hd] at B
        clear hc e0 e1 e2 g1 g2 h1 h2 hd
        go_enter Try.func104, Try.ntmps104
        go_wp2_with (go_at_call 90; refine (B.out _).mono ?_; rintro e w1 ⟨rfl, hb1⟩; obtain ⟨hc1, hf1, hz1⟩ := bcell hb1; (try simp at hz1); (try have : w.heap.size < w1.heap.size := by omega); (try have : w.heap.size + 1 < w1.heap.size := by omega); (try have : w.heap.size + 1 + 1 < w1.heap.size := by omega); (try have : w.heap.size + 1 + 1 + 1 < w1.heap.size := by omega); (try have : g < w1.heap.size := by omega); (try have : ga < w1.heap.size := by omega); (try have : gb < w1.heap.size := by omega); (try have : gc < w1.heap.size := by omega))
        go_ret2
        exact ⟨rfl, (by repeat (first | (with_reducible exact Below.refl _ _) | (with_reducible assumption) | (with_reducible refine Below.drew ?_) | (with_reducible refine Below.alloc ?_ ?_ _) | (with_reducible refine Below.setCell ?_ ?_ _) | (with_reducible refine Below.trans ?_ (Below.mono hb ?_)) | (with_reducible refine Below.trans ?_ (Below.mono hb1 ?_)) | (with_reducible refine Below.trans ?_ (Below.mono hb2 ?_)) | (with_reducible refine Below.trans ?_ (Below.mono hb3 ?_)) | (with_reducible refine Below.trans ?_ (Below.mono hb4 ?_)) | (with_reducible refine Below.trans ?_ (Below.mono hb5 ?_)) | (with_reducible refine Below.trans ?_ (Below.mono hb6 ?_)) | (with_reducible refine Below.trans ?_ (Below.mono hb7 ?_)) | (with_reducible refine Below.trans ?_ (Below.mono hb8 ?_)) | (with_reducible refine Below.trans ?_ (Below.mono hb9 ?_)) | (focus (first | omega | (simp; done) | (simp; omega))) | exact hB))⟩
      · have e1 : clampI n = 9223372036854775807 := by unfold clampI; rw [if_neg (by omega), if_pos (by omega)]
        rw [e1]
        have hd : decide (n < 0) = false := by simpa using h2
        rw [hd] at B
        clear hc e0 e1 e2 g1 g2 h1 h2 hd
        go_enter Try.func104, Try.ntmps104
        go_wp2_with (go_at_call 90; refine (B.out _).mono ?_; rintro e w1 ⟨rfl, hb1⟩; obtain ⟨hc1, hf1, hz1⟩ := bcell hb1; (try simp at hz1); (try have : w.heap.size < w1.heap.size := by omega); (try have : w.heap.size + 1 < w1.heap.size := by omega); (try have : w.heap.size + 1 + 1 < w1.heap.size := by omega); (try have : w.heap.size + 1 + 1 + 1 < w1.heap.size := by omega); (try have : g < w1.heap.size := by omega); (try have : ga < w1.heap.size := by omega); (try have : gb < w1.heap.size := by omega); (try have : gc < w1.heap.size := by omega))
        go_ret2
        exact ⟨rfl, (by repeat (first | (with_reducible exact Below.refl _ _) | (with_reducible assumption) | (with_reducible refine Below.drew ?_) | (with_reducible refine Below.alloc ?_ ?_ _) | (with_reducible refine Below.setCell ?_ ?_ _) | (with_reducible refine Below.trans ?_ (Below.mono hb ?_)) | (with_reducible refine Below.trans ?_ (Below.mono hb1 ?_)) | (with_reducible refine Below.trans ?_ (Below.mono hb2 ?_)) | (with_reducible refine Below.trans ?_ (Below.mono hb3 ?_)) | (with_reducible refine Below.trans ?_ (Below.mono hb4 ?_)) | (with_reducible refine Below.trans ?_ (Below.mono hb5 ?_)) | (with_reducible refine Below.trans ?_ (Below.mono hb6 ?_)) | (with_reducible refine Below.trans ?_ (Below.mono hb7 ?_)) | (with_reducible refine Below.trans ?_ (Below.mono hb8 ?_)) | (with_reducible refine Below.trans ?_ (Below.mono hb9 ?_)) | (focus (first | omega | (simp; done) | (simp; omega))) | exact hB))⟩
    · have g1' : (q1 n == IntKind.u64.wrap (wrap64 (q0 n) / 9223372036854775808)) = false := by simpa using g1
      by_cases h2 : n < 0
      · have e1 : clampI n = -9223372036854775808 := by unfold clampI; rw [if_pos (by omega)]
        rw [e1]
        have hd : decide (n < 0) = true := by simpa using h2
        rw [hd] at B
        clear hc e0 e1 e2 g1 h1 h2 hd
        go_enter Try.func104, Try.ntmps104
        go_wp2_with (go_at_call 90; refine (B.out _).mono ?_; rintro e w1 ⟨rfl, hb1⟩; obtain ⟨hc1, hf1, hz1⟩ := bcell hb1; (try simp at hz1); (try have : w.heap.size < w1.heap.size := by omega); (try have : w.heap.size + 1 < w1.heap.size := by omega); (try have : w.heap.size + 1 + 1 < w1.heap.size := by omega); (try have : w.heap.size + 1 + 1 + 1 < w1.heap.size := by omega); (try have : g < w1.heap.size := by omega); (try have : ga < w1.heap.size := by omega); (try have : gb < w1.heap.size := by omega); (try have : gc < w1.heap.size := by omega))
        go_ret2
        exact ⟨rfl, (by repeat (first | (with_reducible exact Below.refl _ _) | (with_reducible assumption) | (with_reducible refine Below.drew ?_) | (with_reducible refine Below.alloc ?_ ?_ _) | (with_reducible refine Below.setCell ?_ ?_ _) | (with_reducible refine Below.trans ?_ (Below.mono hb ?_)) | (with_reducible refine Below.trans ?_ (Below.mono hb1 ?_)) | (with_reducible refine Below.trans ?_ (Below.mono hb2 ?_)) | (with_reducible refine Below.trans ?_ (Below.mono hb3 ?_)) | (with_reducible refine Below.trans ?_ (Below.mono hb4 ?_)) | (with_reducible refine Below.trans ?_ (Below.mono hb5 ?_)) | (with_reducible refine Below.trans ?_ (Below.mono hb6 ?_)) | (with_reducible refine Below.trans ?_ (Below.mono hb7 ?_)) | (with_reducible refine Below.trans ?_ (Below.mono hb8 ?_)) | (with_reducible refine Below.trans ?_ (Below.mono hb9 ?_)) | (focus (first | omega | (simp; done) | (simp; omega))) | exact hB))⟩
      · have e1 : clampI n = 9223372036854775807 := by unfold clampI; rw [if_neg (by omega), if_pos (by omega)]
        rw [e1]
        have hd : decide (n < 0) = false := by simpa using h2
        rw [hd] at B
        clear hc e0 e1 e2 g1 h1 h2 hd
        go_enter Try.func104, Try.ntmps104
        go_wp2_with (go_at_call 90; refine (B.out _).mono ?_; rintro e w1 ⟨rfl, hb1⟩; obtain ⟨hc1, hf1, hz1⟩ := bcell hb1; (try simp at hz1); (try have : w.heap.size < w1.heap.size := by omega); (try have : w.heap.size + 1 < w1.heap.size := by omega); (try have : w.heap.size + 1 + 1 < w1.heap.size := by omega); (try have : w.heap.size + 1 + 1 + 1 < w1.heap.size := by omega); (try have : g < w1.heap.size := by omega); (try have : ga < w1.heap.size := by omega); (try have : gb < w1.heap.size := by omega); (try have : gc < w1.heap.size := by omega))
        go_ret2
        exact ⟨rfl, (by repeat (first | (with_reducible exact Below.refl _ _) | (with_reducible assumption) | (with_reducible refine Below.drew ?_) | (with_reducible refine Below.alloc ?_ ?_ _) | (with_reducible refine Below.setCell ?_ ?_ _) | (with_reducible refine Below.trans ?_ (Below.mono hb ?_)) | (with_reducible refine Below.trans ?_ (Below.mono hb1 ?_)) | (with_reducible refine Below.trans ?_ (Below.mono hb2 ?_)) | (with_reducible refine Below.trans ?_ (Below.mono hb3 ?_)) | (with_reducible refine Below.trans ?_ (Below.mono hb4 ?_)) | (with_reducible refine Below.trans ?_ (Below.mono hb5 ?_)) | (with_reducible refine Below.trans ?_ (Below.mono hb6 ?_)) | (with_reducible refine Below.trans ?_ (Below.mono hb7 ?_)) | (with_reducible refine Below.trans ?_ (Below.mono hb8 ?_)) | (with_reducible refine Below.trans ?_ (Below.mono hb9 ?_)) | (focus (first | omega | (simp; done) | (simp; omega))) | exact hB))⟩
end Go.Proofs.Ytjhepjmggenadaa
