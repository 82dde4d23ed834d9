import Derived.Test.YtikjomekhnkgcaaL4
import Derived.LoopTactic
/- Long numbers: the root. -/
namespace Go.Proofs.Ytikjomekhnkgcaa
open Go.RowKit
attribute [local go_sem ↓] Go.wp_at_zero Go.wp_at_succ

/-- The greatest whole number whose square is not above n (n from 0 on): plain. -/
def isRoot (n r : Int) : Prop := 0 ≤ r ∧ r * r ≤ n ∧ n < (r + 1) * (r + 1)

/-- After i of 63 rounds: the top bits of the root. -/
structure Rooted (n : Int) (i : Nat) (r : Int) : Prop where
  r0 : 0 ≤ r
  dvd : ∃ c, r = c * 2 ^ (63 - i)
  low : r * r ≤ n
  top : n < (r + 2 ^ (63 - i)) * (r + 2 ^ (63 - i))

theorem rooted_start (n : Int) (h0 : 0 ≤ n) (h1 : n < 85070591730234615865843651857942052864) : Rooted n 0 0 := by
  refine ⟨Int.le_refl _, ⟨0, by simp⟩, by simpa using h0, ?_⟩
  rw [show (2 : Int) ^ (63 - 0) = 9223372036854775808 by decide]
  omega
theorem rooted_lt {n : Int} {i : Nat} {r : Int} (h : Rooted n i r) (hi : i ≤ 63) (h1 : n < 85070591730234615865843651857942052864) : r + 2 ^ (63 - i) ≤ 9223372036854775808 := by
  obtain ⟨c, hc⟩ := h.dvd
  have hp := pow_pos' (63 - i)
  have hpr : (2 : Int) ^ (63 - i) * 2 ^ i = 9223372036854775808 := by rw [← Int.pow_add, show 63 - i + i = 63 by omega]; decide
  have hr : r < 9223372036854775808 := by
    rcases (by omega : r < 9223372036854775808 ∨ 9223372036854775808 ≤ r) with h2 | h2
    · exact h2
    · exfalso
      have h3 : (9223372036854775808 : Int) * 9223372036854775808 ≤ r * r := Int.mul_le_mul h2 h2 (by omega) h.r0
      have := h.low
      omega
  have hc2 : c < 2 ^ i := by
    rw [hc, ← hpr, Int.mul_comm] at hr
    exact Int.lt_of_mul_lt_mul_left hr (by omega)
  have h4 : (c + 1) * 2 ^ (63 - i) ≤ 2 ^ i * 2 ^ (63 - i) := Int.mul_le_mul_of_nonneg_right (by omega) (by omega)
  rw [Int.add_mul, Int.one_mul, ← hc, Int.mul_comm (2 ^ i), hpr] at h4
  exact h4
theorem rooted_step {n : Int} {i : Nat} {r : Int} (h : Rooted n i r) (hi : i < 63) :
    (r + 2 ^ (62 - i)) % 2 ^ (62 - i) = 0 ∧ r % 2 ^ (62 - i + 1) = 0 ∧
    ((r + 2 ^ (62 - i)) * (r + 2 ^ (62 - i)) ≤ n → Rooted n (i + 1) (r + 2 ^ (62 - i))) ∧ (¬ (r + 2 ^ (62 - i)) * (r + 2 ^ (62 - i)) ≤ n → Rooted n (i + 1) r) := by
  obtain ⟨c, hc⟩ := h.dvd
  have hp := pow_pos' (62 - i)
  have e : (2 : Int) ^ (63 - i) = 2 * 2 ^ (62 - i) := by rw [show 63 - i = 62 - i + 1 by omega, Int.pow_succ, Int.mul_comm]
  have hr0 := h.r0
  have htop := h.top
  have hlow := h.low
  rw [e] at hc htop
  have e2 : 63 - (i + 1) = 62 - i := by omega
  have hm : r = 2 * c * 2 ^ (62 - i) := by rw [hc, Int.mul_comm 2 c, Int.mul_assoc]
  refine ⟨?_, ?_, fun h1 => ⟨by omega, ⟨2 * c + 1, ?_⟩, h1, ?_⟩, fun h1 => ⟨hr0, ⟨2 * c, ?_⟩, hlow, ?_⟩⟩
  · have h9 : 2 * c * 2 ^ (62 - i) + 2 ^ (62 - i) = (2 * c + 1) * 2 ^ (62 - i) := by rw [Int.add_mul, Int.one_mul]
    rw [hm, h9, Int.mul_emod_left]
  · rw [Int.pow_succ, hc, Int.mul_comm (2 ^ (62 - i)) 2, Int.mul_emod_left]
  · rw [e2, Int.add_mul, Int.one_mul, ← hm]
  · rw [e2, Int.add_assoc, show (2 : Int) ^ (62 - i) + 2 ^ (62 - i) = 2 * 2 ^ (62 - i) by omega]; exact htop
  · rw [e2]; exact hm
  · rw [e2]; omega
theorem rooted_end {n r : Int} (h : Rooted n 63 r) : isRoot n r := ⟨h.r0, h.low, by have := h.top; simpa using this⟩

theorem root_unique {n r s : Int} (h1 : isRoot n r) (h2 : isRoot n s) : r = s := by
  obtain ⟨a0, a1, a2⟩ := h1
  obtain ⟨b0, b1, b2⟩ := h2
  rcases Int.lt_trichotomy r s with h | h | h
  · have : (r + 1) * (r + 1) ≤ s * s := Int.mul_le_mul (by omega) (by omega) (by omega) b0
    omega
  · exact h
  · have : (s + 1) * (s + 1) ≤ r * r := Int.mul_le_mul (by omega) (by omega) (by omega) a0
    omega
theorem root_exists (n : Int) (h0 : 0 ≤ n) (h1 : n < 85070591730234615865843651857942052864) : ∃ r, isRoot n r ∧ r < 9223372036854775808 := by
  have key : ∀ i : Nat, i ≤ 63 → ∃ r, Rooted n i r := by
    intro i
    induction i with
    | zero => exact fun _ => ⟨0, rooted_start n h0 h1⟩
    | succ i ih =>
      intro hi
      obtain ⟨r, hr⟩ := ih (by omega)
      obtain ⟨_, _, s1, s2⟩ := rooted_step hr (by omega)
      by_cases h : (r + 2 ^ (62 - i)) * (r + 2 ^ (62 - i)) ≤ n
      · exact ⟨_, s1 h⟩
      · exact ⟨_, s2 h⟩
  obtain ⟨r, hr⟩ := key 63 (by omega)
  have := rooted_lt hr (by omega) h1
  exact ⟨r, rooted_end hr, by simp at this; omega⟩

theorem root_words {n : Int} (h : In192 n) (h0 : 0 ≤ n) : (n < 85070591730234615865843651857942052864 → q2 n = 0 ∧ q1 n < 4611686018427387904 ∧ wrap64 (q1 n) = hi n ∧ q0 n = lo n) ∧
    (¬ n < 85070591730234615865843651857942052864 → q2 n = 0 → 4611686018427387904 ≤ q1 n) := by
  have h1 := q1_u n
  have hs := q_sum n
  have e2 : q2 n = tp n % 18446744073709551616 := rfl
  have ht := tp_in h
  have h3 := q0_u n
  unfold U64 at h1 h3; unfold In64 at ht
  refine ⟨fun h2 => ⟨by omega, by omega, ?_, rfl⟩, fun h2 h4 => by omega⟩
  have e3 : hi n = tp n * 18446744073709551616 + q1 n := by unfold hi tp q1; omega
  unfold wrap64; omega

theorem try_word {n : Int} {i : Nat} {r : Int} (h : Rooted n i r) (hi : i < 63) (h1 : n < 85070591730234615865843651857942052864) :
    bits .or .i64 r (2 ^ (62 - i)) = r + 2 ^ (62 - i) ∧ r + 2 ^ (62 - i) < 9223372036854775808 ∧ (2 : Int) ^ (62 - i) < 9223372036854775808 := by
  have hp := pow_pos' (62 - i)
  have hl := rooted_lt h (by omega) h1
  have e : (2 : Int) ^ (63 - i) = 2 * 2 ^ (62 - i) := by rw [show 63 - i = 62 - i + 1 by omega, Int.pow_succ, Int.mul_comm]
  have e' : (2 : Int) ^ (62 - i + 1) = 2 * 2 ^ (62 - i) := by rw [Int.pow_succ, Int.mul_comm]
  obtain ⟨_, s0, _, _⟩ := rooted_step h hi
  have h0 := h.r0
  refine ⟨?_, by omega, by omega⟩
  rw [or_i64 r _ (62 - i + 1) (by omega) s0 (by omega) (by omega)]
  unfold wrap64; omega

set_option maxHeartbeats 2000000 in
theorem root_any (n : Int) (hn : In192 n) (h0 : 0 ≤ n) (h1 : n < 85070591730234615865843651857942052864) (r : Int) (hr : isRoot n r) (w : World) :
    Calls Try.prog 85 #[.agg #[.int .i64 (tp n), .int .u64 (q1 n), .int .u64 (q0 n)]] w fun e w' =>
      e = .returned (.tuple #[.int .i64 r, .bool false]) ∧ Below w.heap.size w w' := by
  have O := Lib.hid (fun W => open_any n W)
  have B := Lib.hid (fun W => belowq_any n W)
  rw [w192_id hn, decide_eq_false (by omega)] at B
  obtain ⟨t1, t2, t3, t4⟩ := (root_words hn h0).1 h1
  have t1' := bne_no t1
  have T4 := Lib.hid t4
  have t2' : decide (4611686018427387904 ≤ q1 n) = false := by simpa using t2
  have T3 := Lib.hid t3
  clear t1 t2 t3 t4
  go_enter Try.func85, Try.ntmps85
  go_wp2_with (first | (go_at_call 111; refine (O.out _).mono ?_; rintro e w1 ⟨rfl, hb1⟩; obtain ⟨hc1, hf1, hz1⟩ := bcell hb1; (try simp at hz1); (try have : w.heap.size < w1.heap.size := by omega); (try have : w.heap.size + 1 < w1.heap.size := by omega); (try have : w.heap.size + 1 + 1 < w1.heap.size := by omega); (try have : w.heap.size + 1 + 1 + 1 < w1.heap.size := by omega); (try have : g < w1.heap.size := by omega); (try have : ga < w1.heap.size := by omega); (try have : gb < w1.heap.size := by omega); (try have : gc < w1.heap.size := by omega)) | (go_at_call 112; refine (B.out _).mono ?_; rintro e w2 ⟨rfl, hb2⟩; obtain ⟨hc2, hf2, hz2⟩ := bcell hb2; (try simp at hz2); (try have : w.heap.size < w2.heap.size := by omega); (try have : w.heap.size + 1 < w2.heap.size := by omega); (try have : w.heap.size + 1 + 1 < w2.heap.size := by omega); (try have : w.heap.size + 1 + 1 + 1 < w2.heap.size := by omega); (try have : w1.heap.size < w2.heap.size := by omega); (try have : w1.heap.size + 1 < w2.heap.size := by omega); (try have : w1.heap.size + 1 + 1 < w2.heap.size := by omega); (try have : w1.heap.size + 1 + 1 + 1 < w2.heap.size := by omega); (try have : g < w2.heap.size := by omega); (try have : ga < w2.heap.size := by omega); (try have : gb < w2.heap.size := by omega); (try have : gc < w2.heap.size := by omega)))
  refine at_world fun W0 hW0 => ?_
  have c1 : W0.cell? ⟨w2.heap.size, 0, none⟩ = some (.int .i64 (hi n)) := by subst hW0; simp [go_sem, T3.out]
  have c2 : W0.cell? ⟨w2.heap.size, 1, none⟩ = some (.int .u64 (lo n)) := by subst hW0; simp [go_sem, T4.out]
  have k1 : w2.heap.size < W0.heap.size := by subst hW0; simp
  have BW : Below w.heap.size w W0 := by subst hW0; exact (by repeat (first | (with_reducible exact Below.refl _ _) | (with_reducible assumption) | (with_reducible refine Below.drew ?_) | (with_reducible refine Below.alloc ?_ ?_ _) | (with_reducible refine Below.setCell ?_ ?_ _) | (with_reducible refine Below.trans ?_ (Below.mono hb ?_)) | (with_reducible refine Below.trans ?_ (Below.mono hb1 ?_)) | (with_reducible refine Below.trans ?_ (Below.mono hb2 ?_)) | (with_reducible refine Below.trans ?_ (Below.mono hb3 ?_)) | (with_reducible refine Below.trans ?_ (Below.mono hb4 ?_)) | (with_reducible refine Below.trans ?_ (Below.mono hb5 ?_)) | (with_reducible refine Below.trans ?_ (Below.mono hb6 ?_)) | (with_reducible refine Below.trans ?_ (Below.mono hb7 ?_)) | (with_reducible refine Below.trans ?_ (Below.mono hb8 ?_)) | (with_reducible refine Below.trans ?_ (Below.mono hb9 ?_)) | (focus (first | omega | (simp; done) | (simp; omega))) | exact hB))
  clear hW0 hc1 hc2 hf1 hf2
  go_loopw [6, 27] (fun x y wr => ∃ (k : Nat) (s : Int), k ≤ 63 ∧ y = .int .i64 k ∧ x = .int .i64 s ∧ Hid (Rooted n k s) ∧ Below W0.heap.size W0 wr) (fun _ y _ => (63 - intOf y).toNat)
  case atStart => exact ⟨0, 0, by omega, rfl, rfl, Lib.hid (rooted_start n h0 h1), Below.refl _ _⟩
  case round =>
    obtain ⟨k, s, hk, rfl, rfl, G, hB⟩ := hrel
    by_cases hlt : k < 63
    · obtain ⟨y1, y2, y3⟩ := try_word G.out hlt h1
      obtain ⟨_, _, s1, s2⟩ := rooted_step G.out hlt
      have y4 := G.out.r0
      have y5 := pow_pos' (62 - k)
      generalize hP : (2 : Int) ^ (62 - k) = p at *
      have Hs1 := Lib.hid s1; have Hs2 := Lib.hid s2; clear s1 s2
      have M := Lib.hid (fun W => mul_any (s + p) (s + p) (by unfold In64; omega) (by unfold In64; omega) W)
      have C := Lib.hid (fun W => cmp_any ((s + p) * (s + p)) n W)
      have d1 : wr.cell? ⟨w2.heap.size, 0, none⟩ = some (.int .i64 (hi n)) := by rw [hB.cell (p := ⟨w2.heap.size, 0, none⟩) k1]; exact c1
      have d2 : wr.cell? ⟨w2.heap.size, 1, none⟩ = some (.int .u64 (lo n)) := by rw [hB.cell (p := ⟨w2.heap.size, 1, none⟩) k1]; exact c2
      have k2 : w2.heap.size < wr.heap.size := Nat.lt_of_lt_of_le k1 hB.size
      by_cases hc : (s + p) * (s + p) ≤ n
      · have hci : cmpI ((s + p) * (s + p)) n ≤ 0 := by unfold cmpI; split; omega; split <;> omega
        have G2 := Lib.hid (Hs1.out hc)
        clear hc Hs1 Hs2 hr
        go_wp2_with fail
        go_region_held3 (fun w' => Below W0.heap.size W0 w' ∧ ∀ b o, b < W0.heap.size → w'.cell? ⟨b, o, none⟩ = W0.cell? ⟨b, o, none⟩) ((first | (refine sb_call ?_ hb; assumption) | exact sb_of hs | exact sb_of (Below.drew hs) | (refine sb_call ?_ hb1; assumption) | (refine sb_call ?_ hb2; assumption) | (refine sb_call ?_ hb3; assumption) | (refine sb_call ?_ hb4; assumption) | (refine sb_call ?_ hb5; assumption) | (refine sb_call ?_ hb6; assumption) | (refine sb_call ?_ hb7; assumption) | (refine sb_call ?_ hb8; assumption) | (refine sb_call ?_ hb9; assumption) | exact sb_of (by repeat (first | (with_reducible exact Below.refl _ _) | (with_reducible assumption) | (with_reducible refine Below.drew ?_) | (with_reducible refine Below.alloc ?_ ?_ _) | (with_reducible refine Below.setCell ?_ ?_ _) | (with_reducible refine Below.trans ?_ (Below.mono hb ?_)) | (with_reducible refine Below.trans ?_ (Below.mono hb1 ?_)) | (with_reducible refine Below.trans ?_ (Below.mono hb2 ?_)) | (with_reducible refine Below.trans ?_ (Below.mono hb3 ?_)) | (with_reducible refine Below.trans ?_ (Below.mono hb4 ?_)) | (with_reducible refine Below.trans ?_ (Below.mono hb5 ?_)) | (with_reducible refine Below.trans ?_ (Below.mono hb6 ?_)) | (with_reducible refine Below.trans ?_ (Below.mono hb7 ?_)) | (with_reducible refine Below.trans ?_ (Below.mono hb8 ?_)) | (with_reducible refine Below.trans ?_ (Below.mono hb9 ?_)) | (focus (first | omega | (simp; done) | (simp; omega))) | exact hB))))
          (first
            | (go_at_call 67; refine (M.out _).mono ?_; rintro e w3 ⟨rfl, hb3⟩; have hs3 := sb_below (by assumption) hb3; have hz3 := hs3.size; obtain ⟨hc3, hf3, hy3⟩ := bcell hb3; (try simp at hy3); (try have : W0.heap.size < w3.heap.size := by omega); (try have : w1.heap.size < w3.heap.size := by omega); (try have : w2.heap.size < w3.heap.size := by omega))
            | (go_at_call 99; refine (C.out _).mono ?_; rintro e w4 ⟨rfl, hb4⟩; have hs4 := sb_below (by assumption) hb4; have hz4 := hs4.size; obtain ⟨hc4, hf4, hy4⟩ := bcell hb4; (try simp at hy4); (try have : W0.heap.size < w4.heap.size := by omega); (try have : w1.heap.size < w4.heap.size := by omega); (try have : w2.heap.size < w4.heap.size := by omega); (try have : w3.heap.size < w4.heap.size := by omega)))
        all_goals
          go_wp2
          go_roundw
          case rel => exact ⟨k + 1, s + p, by omega, by go_num, rfl, G2, by first | exact hs4 | exact hs4.drew⟩
          case measure => simp [intOf]; omega
      · have hci : 0 < cmpI ((s + p) * (s + p)) n := by unfold cmpI; split; omega; split <;> omega
        have G2 := Lib.hid (Hs2.out hc)
        clear hc Hs1 Hs2 hr
        go_wp2_with fail
        go_region_held3 (fun w' => Below W0.heap.size W0 w' ∧ ∀ b o, b < W0.heap.size → w'.cell? ⟨b, o, none⟩ = W0.cell? ⟨b, o, none⟩) ((first | (refine sb_call ?_ hb; assumption) | exact sb_of hs | exact sb_of (Below.drew hs) | (refine sb_call ?_ hb1; assumption) | (refine sb_call ?_ hb2; assumption) | (refine sb_call ?_ hb3; assumption) | (refine sb_call ?_ hb4; assumption) | (refine sb_call ?_ hb5; assumption) | (refine sb_call ?_ hb6; assumption) | (refine sb_call ?_ hb7; assumption) | (refine sb_call ?_ hb8; assumption) | (refine sb_call ?_ hb9; assumption) | exact sb_of (by repeat (first | (with_reducible exact Below.refl _ _) | (with_reducible assumption) | (with_reducible refine Below.drew ?_) | (with_reducible refine Below.alloc ?_ ?_ _) | (with_reducible refine Below.setCell ?_ ?_ _) | (with_reducible refine Below.trans ?_ (Below.mono hb ?_)) | (with_reducible refine Below.trans ?_ (Below.mono hb1 ?_)) | (with_reducible refine Below.trans ?_ (Below.mono hb2 ?_)) | (with_reducible refine Below.trans ?_ (Below.mono hb3 ?_)) | (with_reducible refine Below.trans ?_ (Below.mono hb4 ?_)) | (with_reducible refine Below.trans ?_ (Below.mono hb5 ?_)) | (with_reducible refine Below.trans ?_ (Below.mono hb6 ?_)) | (with_reducible refine Below.trans ?_ (Below.mono hb7 ?_)) | (with_reducible refine Below.trans ?_ (Below.mono hb8 ?_)) | (with_reducible refine Below.trans ?_ (Below.mono hb9 ?_)) | (focus (first | omega | (simp; done) | (simp; omega))) | exact hB))))
          (first
            | (go_at_call 67; refine (M.out _).mono ?_; rintro e w3 ⟨rfl, hb3⟩; have hs3 := sb_below (by assumption) hb3; have hz3 := hs3.size; obtain ⟨hc3, hf3, hy3⟩ := bcell hb3; (try simp at hy3); (try have : W0.heap.size < w3.heap.size := by omega); (try have : w1.heap.size < w3.heap.size := by omega); (try have : w2.heap.size < w3.heap.size := by omega))
            | (go_at_call 99; refine (C.out _).mono ?_; rintro e w4 ⟨rfl, hb4⟩; have hs4 := sb_below (by assumption) hb4; have hz4 := hs4.size; obtain ⟨hc4, hf4, hy4⟩ := bcell hb4; (try simp at hy4); (try have : W0.heap.size < w4.heap.size := by omega); (try have : w1.heap.size < w4.heap.size := by omega); (try have : w2.heap.size < w4.heap.size := by omega); (try have : w3.heap.size < w4.heap.size := by omega)))
        all_goals
          go_wp2
          go_roundw
          case rel => exact ⟨k + 1, s, by omega, by go_num, rfl, G2, by first | exact hs4 | exact hs4.drew⟩
          case measure => simp [intOf]; omega
    · obtain rfl : k = 63 := by omega
      obtain rfl : r = s := root_unique hr (rooted_end G.out)
      clear hr hlt G
      go_wp2
      go_ret2
      exact ⟨rfl, BW.trans (hB.mono (by have := BW.size; omega))⟩

set_option maxHeartbeats 1000000 in
theorem root_out (n : Int) (hn : In192 n) (h1 : n < 0 ∨ 85070591730234615865843651857942052864 ≤ n) (w : World) :
    Calls Try.prog 85 #[.agg #[.int .i64 (tp n), .int .u64 (q1 n), .int .u64 (q0 n)]] w fun e w' =>
      e = .returned (.tuple #[.int .i64 (if n < 0 then 0 else 9223372036854775807), .bool true]) ∧ Below w.heap.size w w' := by
  have O := Lib.hid (fun W => open_any n W)
  have B := Lib.hid (fun W => belowq_any n W)
  rw [w192_id hn] at B
  by_cases h0 : n < 0
  · rw [if_pos h0]
    rw [decide_eq_true h0] at B
    go_enter Try.func85, Try.ntmps85
    go_wp2_with (first | (go_at_call 111; refine (O.out _).mono ?_; rintro e w1 ⟨rfl, hb1⟩; obtain ⟨hc1, hf1, hz1⟩ := bcell hb1; (try simp at hz1); (try have : w.heap.size < w1.heap.size := by omega); (try have : w.heap.size + 1 < w1.heap.size := by omega); (try have : w.heap.size + 1 + 1 < w1.heap.size := by omega); (try have : w.heap.size + 1 + 1 + 1 < w1.heap.size := by omega); (try have : g < w1.heap.size := by omega); (try have : ga < w1.heap.size := by omega); (try have : gb < w1.heap.size := by omega); (try have : gc < w1.heap.size := by omega)) | (go_at_call 112; refine (B.out _).mono ?_; rintro e w2 ⟨rfl, hb2⟩; obtain ⟨hc2, hf2, hz2⟩ := bcell hb2; (try simp at hz2); (try have : w.heap.size < w2.heap.size := by omega); (try have : w.heap.size + 1 < w2.heap.size := by omega); (try have : w.heap.size + 1 + 1 < w2.heap.size := by omega); (try have : w.heap.size + 1 + 1 + 1 < w2.heap.size := by omega); (try have : w1.heap.size < w2.heap.size := by omega); (try have : w1.heap.size + 1 < w2.heap.size := by omega); (try have : w1.heap.size + 1 + 1 < w2.heap.size := by omega); (try have : w1.heap.size + 1 + 1 + 1 < w2.heap.size := by omega); (try have : g < w2.heap.size := by omega); (try have : ga < w2.heap.size := by omega); (try have : gb < w2.heap.size := by omega); (try have : gc < w2.heap.size := by omega)))
    go_ret2
    exact ⟨rfl, (by repeat (first | (with_reducible exact Below.refl _ _) | (with_reducible assumption) | (with_reducible refine Below.drew ?_) | (with_reducible refine Below.alloc ?_ ?_ _) | (with_reducible refine Below.setCell ?_ ?_ _) | (with_reducible refine Below.trans ?_ (Below.mono hb ?_)) | (with_reducible refine Below.trans ?_ (Below.mono hb1 ?_)) | (with_reducible refine Below.trans ?_ (Below.mono hb2 ?_)) | (with_reducible refine Below.trans ?_ (Below.mono hb3 ?_)) | (with_reducible refine Below.trans ?_ (Below.mono hb4 ?_)) | (with_reducible refine Below.trans ?_ (Below.mono hb5 ?_)) | (with_reducible refine Below.trans ?_ (Below.mono hb6 ?_)) | (with_reducible refine Below.trans ?_ (Below.mono hb7 ?_)) | (with_reducible refine Below.trans ?_ (Below.mono hb8 ?_)) | (with_reducible refine Below.trans ?_ (Below.mono hb9 ?_)) | (focus (first | omega | (simp; done) | (simp; omega))) | exact hB))⟩
  · rw [if_neg h0]
    rw [decide_eq_false h0] at B
    have hw := (root_words hn (by omega)).2 (by omega)
    by_cases t : q2 n = 0
    · have t1 := bne_no t
      have t2 := hw t
      clear hw t
      go_enter Try.func85, Try.ntmps85
      go_wp2_with (first | (go_at_call 111; refine (O.out _).mono ?_; rintro e w1 ⟨rfl, hb1⟩; obtain ⟨hc1, hf1, hz1⟩ := bcell hb1; (try simp at hz1); (try have : w.heap.size < w1.heap.size := by omega); (try have : w.heap.size + 1 < w1.heap.size := by omega); (try have : w.heap.size + 1 + 1 < w1.heap.size := by omega); (try have : w.heap.size + 1 + 1 + 1 < w1.heap.size := by omega); (try have : g < w1.heap.size := by omega); (try have : ga < w1.heap.size := by omega); (try have : gb < w1.heap.size := by omega); (try have : gc < w1.heap.size := by omega)) | (go_at_call 112; refine (B.out _).mono ?_; rintro e w2 ⟨rfl, hb2⟩; obtain ⟨hc2, hf2, hz2⟩ := bcell hb2; (try simp at hz2); (try have : w.heap.size < w2.heap.size := by omega); (try have : w.heap.size + 1 < w2.heap.size := by omega); (try have : w.heap.size + 1 + 1 < w2.heap.size := by omega); (try have : w.heap.size + 1 + 1 + 1 < w2.heap.size := by omega); (try have : w1.heap.size < w2.heap.size := by omega); (try have : w1.heap.size + 1 < w2.heap.size := by omega); (try have : w1.heap.size + 1 + 1 < w2.heap.size := by omega); (try have : w1.heap.size + 1 + 1 + 1 < w2.heap.size := by omega); (try have : g < w2.heap.size := by omega); (try have : ga < w2.heap.size := by omega); (try have : gb < w2.heap.size := by omega); (try have : gc < w2.heap.size := by omega)))
      go_ret2
      exact ⟨rfl, (by repeat (first | (with_reducible exact Below.refl _ _) | (with_reducible assumption) | (with_reducible refine Below.drew ?_) | (with_reducible refine Below.alloc ?_ ?_ _) | (with_reducible refine Below.setCell ?_ ?_ _) | (with_reducible refine Below.trans ?_ (Below.mono hb ?_)) | (with_reducible refine Below.trans ?_ (Below.mono hb1 ?_)) | (with_reducible refine Below.trans ?_ (Below.mono hb2 ?_)) | (with_reducible refine Below.trans ?_ (Below.mono hb3 ?_)) | (with_reducible refine Below.trans ?_ (Below.mono hb4 ?_)) | (with_reducible refine Below.trans ?_ (Below.mono hb5 ?_)) | (with_reducible refine Below.trans ?_ (Below.mono hb6 ?_)) | (with_reducible refine Below.trans ?_ (Below.mono hb7 ?_)) | (with_reducible refine Below.trans ?_ (Below.mono hb8 ?_)) | (with_reducible refine Below.trans ?_ (Below.mono hb9 ?_)) | (focus (first | omega | (simp; done) | (simp; omega))) | exact hB))⟩
    · have t1 := bne_of t
      clear hw t
      go_enter Try.func85, Try.ntmps85
      go_wp2_with (first | (go_at_call 111; refine (O.out _).mono ?_; rintro e w1 ⟨rfl, hb1⟩; obtain ⟨hc1, hf1, hz1⟩ := bcell hb1; (try simp at hz1); (try have : w.heap.size < w1.heap.size := by omega); (try have : w.heap.size + 1 < w1.heap.size := by omega); (try have : w.heap.size + 1 + 1 < w1.heap.size := by omega); (try have : w.heap.size + 1 + 1 + 1 < w1.heap.size := by omega); (try have : g < w1.heap.size := by omega); (try have : ga < w1.heap.size := by omega); (try have : gb < w1.heap.size := by omega); (try have : gc < w1.heap.size := by omega)) | (go_at_call 112; refine (B.out _).mono ?_; rintro e w2 ⟨rfl, hb2⟩; obtain ⟨hc2, hf2, hz2⟩ := bcell hb2; (try simp at hz2); (try have : w.heap.size < w2.heap.size := by omega); (try have : w.heap.size + 1 < w2.heap.size := by omega); (try have : w.heap.size + 1 + 1 < w2.heap.size := by omega); (try have : w.heap.size + 1 + 1 + 1 < w2.heap.size := by omega); (try have : w1.heap.size < w2.heap.size := by omega); (try have : w1.heap.size + 1 < w2.heap.size := by omega); (try have : w1.heap.size + 1 + 1 < w2.heap.size := by omega); (try have : w1.heap.size + 1 + 1 + 1 < w2.heap.size := by omega); (try have : g < w2.heap.size := by omega); (try have : ga < w2.heap.size := by omega); (try have : gb < w2.heap.size := by omega); (try have : gc < w2.heap.size := by omega)))
      go_ret2
      exact ⟨rfl, (by repeat (first | (with_reducible exact Below.refl _ _) | (with_reducible assumption) | (with_reducible refine Below.drew ?_) | (with_reducible refine Below.alloc ?_ ?_ _) | (with_reducible refine Below.setCell ?_ ?_ _) | (with_reducible refine Below.trans ?_ (Below.mono hb ?_)) | (with_reducible refine Below.trans ?_ (Below.mono hb1 ?_)) | (with_reducible refine Below.trans ?_ (Below.mono hb2 ?_)) | (with_reducible refine Below.trans ?_ (Below.mono hb3 ?_)) | (with_reducible refine Below.trans ?_ (Below.mono hb4 ?_)) | (with_reducible refine Below.trans ?_ (Below.mono hb5 ?_)) | (with_reducible refine Below.trans ?_ (Below.mono hb6 ?_)) | (with_reducible refine Below.trans ?_ (Below.mono hb7 ?_)) | (with_reducible refine Below.trans ?_ (Below.mono hb8 ?_)) | (with_reducible refine Below.trans ?_ (Below.mono hb9 ?_)) | (focus (first | omega | (simp; done) | (simp; omega))) | exact hB))⟩
end Go.Proofs.Ytikjomekhnkgcaa
