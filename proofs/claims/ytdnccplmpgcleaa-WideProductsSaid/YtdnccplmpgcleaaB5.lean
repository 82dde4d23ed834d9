import Derived.Test.YtdnccplmpgcleaaLaw01
/- The reference's numbers as bits: Mul, Round. -/
namespace Go.Proofs.Ytdnccplmpgcleaa
open Go.RowKit

theorem mod_more (A M : Int) (k : Nat) : A * (M % 2 ^ k) + bitI k M * (A * 2 ^ k) = A * (M % 2 ^ (k + 1)) := by
  rw [mod_succ, Int.mul_add, Int.mul_comm (bitI k M), Int.mul_assoc]
theorem zero_B (n : Nat) : InB n 0 := by have := p2pos (n - 1); unfold InB; omega
set_option maxHeartbeats 1000000 in
theorem rmul_any (x y : Int) (hx : In64 x) (hy : In64 y) (n : Nat) (hn0 : 0 < n) (hn : n < 1000) (w : World) :
    Calls Try.prog 29 #[.int .i64 x, .int .i64 y, .int .i64 n] w fun e w' => Own w w' e n (x * y) := by
  have tok1 : True := trivial
  have tok2 : True := trivial
  have h0 : In64 0 := by unfold In64; omega
  have iy := in64_B hy
  have hB := Below.refl w.heap.size w
  have y0 : 0 ≤ absI y := by unfold absI; split <;> omega
  have y1 : absI y ≤ 9223372036854775808 := by unfold In64 at hy; unfold absI; split <;> omega
  by_cases s : y < 0
  · have ey : -x * absI y = x * y := by unfold absI; rw [if_pos s, Int.neg_mul_neg]
    obtain ⟨A, hA⟩ : ∃ A, A = -x := ⟨_, rfl⟩
    go_enter Try.func29, Try.ntmps29
    go_wp2_with (first
  | (go_at_call 22; have _t := tok1; refine (rint_any _ hx _ (by omega) (by omega) _).mono ?_; rintro e wk ⟨g1, c1, rfl, hcap1, hge1, qq, hfz1, hb⟩; (try have hs := sb_below (by assumption) hb); (try (first | have q1 := Bt.call q1 hb | have q1 := Bt.call (Bt.drew q1) hb)); (try (first | have q2 := Bt.call q2 hb | have q2 := Bt.call (Bt.drew q2) hb)); (try (first | have q3 := Bt.call q3 hb | have q3 := Bt.call (Bt.drew q3) hb)); (try (first | have q4 := Bt.call q4 hb | have q4 := Bt.call (Bt.drew q4) hb)); (try (first | have q5 := Bt.call q5 hb | have q5 := Bt.call (Bt.drew q5) hb)); (try (first | have q6 := Bt.call q6 hb | have q6 := Bt.call (Bt.drew q6) hb)); (try (first | have q7 := Bt.call q7 hb | have q7 := Bt.call (Bt.drew q7) hb)); (try (first | have q8 := Bt.call q8 hb | have q8 := Bt.call (Bt.drew q8) hb)); (try (first | have q9 := Bt.call q9 hb | have q9 := Bt.call (Bt.drew q9) hb)); (try (first | have hB := Below.trans hB (Below.mono hb (by have := hB.size; omega)) | have hB := Below.trans (Below.drew hB) (Below.mono hb (by have := hB.size; simp; omega)))); (try have hz := Below.size hB); have q1 := qq; clear qq; clear tok1 _t)
  | (go_at_call 22; have _t := tok2; refine (rint_any _ hy 64 (by omega) (by omega) _).mono ?_; rintro e wk ⟨g2, c2, rfl, hcap2, hge2, qq, hfz2, hb⟩; (try have hs := sb_below (by assumption) hb); (try (first | have q1 := Bt.call q1 hb | have q1 := Bt.call (Bt.drew q1) hb)); (try (first | have q2 := Bt.call q2 hb | have q2 := Bt.call (Bt.drew q2) hb)); (try (first | have q3 := Bt.call q3 hb | have q3 := Bt.call (Bt.drew q3) hb)); (try (first | have q4 := Bt.call q4 hb | have q4 := Bt.call (Bt.drew q4) hb)); (try (first | have q5 := Bt.call q5 hb | have q5 := Bt.call (Bt.drew q5) hb)); (try (first | have q6 := Bt.call q6 hb | have q6 := Bt.call (Bt.drew q6) hb)); (try (first | have q7 := Bt.call q7 hb | have q7 := Bt.call (Bt.drew q7) hb)); (try (first | have q8 := Bt.call q8 hb | have q8 := Bt.call (Bt.drew q8) hb)); (try (first | have q9 := Bt.call q9 hb | have q9 := Bt.call (Bt.drew q9) hb)); (try (first | have hB := Below.trans hB (Below.mono hb (by have := hB.size; omega)) | have hB := Below.trans (Below.drew hB) (Below.mono hb (by have := hB.size; simp; omega)))); (try have hz := Below.size hB); have q2 := qq; clear qq; clear tok2 _t)
  | (go_at_call 22; refine (rint_any _ h0 _ (by omega) (by omega) _).mono ?_; rintro e wk ⟨g3, c3, rfl, hcap3, hge3, qq, hfz3, hb⟩; (try have hs := sb_below (by assumption) hb); (try (first | have q1 := Bt.call q1 hb | have q1 := Bt.call (Bt.drew q1) hb)); (try (first | have q2 := Bt.call q2 hb | have q2 := Bt.call (Bt.drew q2) hb)); (try (first | have q3 := Bt.call q3 hb | have q3 := Bt.call (Bt.drew q3) hb)); (try (first | have q4 := Bt.call q4 hb | have q4 := Bt.call (Bt.drew q4) hb)); (try (first | have q5 := Bt.call q5 hb | have q5 := Bt.call (Bt.drew q5) hb)); (try (first | have q6 := Bt.call q6 hb | have q6 := Bt.call (Bt.drew q6) hb)); (try (first | have q7 := Bt.call q7 hb | have q7 := Bt.call (Bt.drew q7) hb)); (try (first | have q8 := Bt.call q8 hb | have q8 := Bt.call (Bt.drew q8) hb)); (try (first | have q9 := Bt.call q9 hb | have q9 := Bt.call (Bt.drew q9) hb)); (try (first | have hB := Below.trans hB (Below.mono hb (by have := hB.size; omega)) | have hB := Below.trans (Below.drew hB) (Below.mono hb (by have := hB.size; simp; omega)))); (try have hz := Below.size hB); have q3 := qq; clear qq)
  | (go_at_call 20; refine (rneg_any _ _ _ _ (by omega) (by omega) _ (by assumption)).mono ?_; rintro e wk ⟨g4, c4, rfl, hcap4, hge4, qq, hfz4, hb⟩; (try have hs := sb_below (by assumption) hb); (try (first | have q1 := Bt.call q1 hb | have q1 := Bt.call (Bt.drew q1) hb)); (try (first | have q2 := Bt.call q2 hb | have q2 := Bt.call (Bt.drew q2) hb)); (try (first | have q3 := Bt.call q3 hb | have q3 := Bt.call (Bt.drew q3) hb)); (try (first | have q4 := Bt.call q4 hb | have q4 := Bt.call (Bt.drew q4) hb)); (try (first | have q5 := Bt.call q5 hb | have q5 := Bt.call (Bt.drew q5) hb)); (try (first | have q6 := Bt.call q6 hb | have q6 := Bt.call (Bt.drew q6) hb)); (try (first | have q7 := Bt.call q7 hb | have q7 := Bt.call (Bt.drew q7) hb)); (try (first | have q8 := Bt.call q8 hb | have q8 := Bt.call (Bt.drew q8) hb)); (try (first | have q9 := Bt.call q9 hb | have q9 := Bt.call (Bt.drew q9) hb)); (try (first | have hB := Below.trans hB (Below.mono hb (by have := hB.size; omega)) | have hB := Below.trans (Below.drew hB) (Below.mono hb (by have := hB.size; simp; omega)))); (try have hz := Below.size hB); have q4 := qq; clear qq)
  | (go_at_call 54; refine (rsize_any _ _ _ 64 iy (by omega) (by omega) _ (by assumption)).mono ?_; rintro e wk ⟨g5, c5, rfl, hcap5, hge5, qq, hfz5, hb⟩; (try have hs := sb_below (by assumption) hb); (try (first | have q1 := Bt.call q1 hb | have q1 := Bt.call (Bt.drew q1) hb)); (try (first | have q2 := Bt.call q2 hb | have q2 := Bt.call (Bt.drew q2) hb)); (try (first | have q3 := Bt.call q3 hb | have q3 := Bt.call (Bt.drew q3) hb)); (try (first | have q4 := Bt.call q4 hb | have q4 := Bt.call (Bt.drew q4) hb)); (try (first | have q5 := Bt.call q5 hb | have q5 := Bt.call (Bt.drew q5) hb)); (try (first | have q6 := Bt.call q6 hb | have q6 := Bt.call (Bt.drew q6) hb)); (try (first | have q7 := Bt.call q7 hb | have q7 := Bt.call (Bt.drew q7) hb)); (try (first | have q8 := Bt.call q8 hb | have q8 := Bt.call (Bt.drew q8) hb)); (try (first | have q9 := Bt.call q9 hb | have q9 := Bt.call (Bt.drew q9) hb)); (try (first | have hB := Below.trans hB (Below.mono hb (by have := hB.size; omega)) | have hB := Below.trans (Below.drew hB) (Below.mono hb (by have := hB.size; simp; omega)))); (try have hz := Below.size hB); have q5 := qq; clear qq))
    replace ey : A * absI y = x * y := by rw [hA]; exact ey
    have qA := q4
    rw [← hA] at qA
    have zg : w.heap.size ≤ g3 := by omega
    clear q1 q2 q4 hA
    have zB := hB.size
    have e65 : absI y % 2 ^ 65 = absI y := Int.emod_eq_of_lt y0 (by omega)
    go_loopw [9, 10] (fun v i wr => ∃ (k g c : Nat), k ≤ 65 ∧ i = .int .i64 k ∧ v = .slice (some ⟨g, 0, none⟩) n c ∧ n ≤ c ∧ w.heap.size ≤ g ∧ (∀ i, wr.frozen? ⟨g, i, none⟩ = false) ∧ Bt wr g n (A * (absI y % 2 ^ k)) ∧ Below wk.heap.size wk wr) (fun _ i _ => 65 - (intOf i).toNat)
    case atStart => exact ⟨0, g3, c3, by omega, rfl, rfl, hcap3, zg, hfz3, by simpa [Int.emod_one] using q3, Below.refl _ _⟩
    case round =>
      obtain ⟨k, g, c, hk, rfl, rfl, hcap, hge, hfz, qo, hL⟩ := hrel
      have zr := hL.size
      by_cases hlt : k < 65
      · have p1 := qA.call hL
        have c1 := (q5.call hL).2 k hlt
        have hm := mod_more A (absI y) k
        rcases (by have := bitI_01 k (absI y); omega : bitI k (absI y) = 0 ∨ bitI k (absI y) = 1) with hb0 | hb1
        · rw [hb0] at c1 hm
          have hm' : A * (absI y % 2 ^ k) = A * (absI y % 2 ^ (k + 1)) := by omega
          rw [hm'] at qo
          clear hm hm' hb0 qA q3 q5 p1
          go_wp2
          go_roundw
          case rel => exact ⟨k + 1, g, c, by omega, by simp, rfl, hcap, hge, hfz, qo, hL⟩
          case measure => simp [intOf]; omega
        · rw [hb1] at c1 hm
          have hm' : A * (absI y % 2 ^ k) + A * 2 ^ k = A * (absI y % 2 ^ (k + 1)) := by omega
          have HM := Lib.hid hm'
          have qoo := qo
          clear hm hm' hb1 qA q3 q5 hB qo
          have hB := hL
          have q1 := p1
          have q2 := qoo
          clear p1 qoo
          go_wp2_with (first
            | (go_at_call 34; refine (rshl_any _ _ k _ _ (by omega) hn0 hn _ (by assumption)).mono ?_; rintro e wk ⟨g6, c6, rfl, hcap6, hge6, qq, hfz6, hb⟩; (try have hs := sb_below (by assumption) hb); (try (first | have q1 := Bt.call q1 hb | have q1 := Bt.call (Bt.drew q1) hb)); (try (first | have q2 := Bt.call q2 hb | have q2 := Bt.call (Bt.drew q2) hb)); (try (first | have q3 := Bt.call q3 hb | have q3 := Bt.call (Bt.drew q3) hb)); (try (first | have q4 := Bt.call q4 hb | have q4 := Bt.call (Bt.drew q4) hb)); (try (first | have q5 := Bt.call q5 hb | have q5 := Bt.call (Bt.drew q5) hb)); (try (first | have q6 := Bt.call q6 hb | have q6 := Bt.call (Bt.drew q6) hb)); (try (first | have q7 := Bt.call q7 hb | have q7 := Bt.call (Bt.drew q7) hb)); (try (first | have q8 := Bt.call q8 hb | have q8 := Bt.call (Bt.drew q8) hb)); (try (first | have q9 := Bt.call q9 hb | have q9 := Bt.call (Bt.drew q9) hb)); (try (first | have hB := Below.trans hB (Below.mono hb (by have := hB.size; omega)) | have hB := Below.trans (Below.drew hB) (Below.mono hb (by have := hB.size; simp; omega)))); (try have hz := Below.size hB); have q6 := qq; clear qq)
            | (go_at_call 19; refine (radd_any _ _ _ _ _ _ _ hn0 hn _ (by assumption) (by assumption)).mono ?_; rintro e wk ⟨g7, c7, rfl, hcap7, hge7, qq, hfz7, hb⟩; (try have hs := sb_below (by assumption) hb); (try (first | have q1 := Bt.call q1 hb | have q1 := Bt.call (Bt.drew q1) hb)); (try (first | have q2 := Bt.call q2 hb | have q2 := Bt.call (Bt.drew q2) hb)); (try (first | have q3 := Bt.call q3 hb | have q3 := Bt.call (Bt.drew q3) hb)); (try (first | have q4 := Bt.call q4 hb | have q4 := Bt.call (Bt.drew q4) hb)); (try (first | have q5 := Bt.call q5 hb | have q5 := Bt.call (Bt.drew q5) hb)); (try (first | have q6 := Bt.call q6 hb | have q6 := Bt.call (Bt.drew q6) hb)); (try (first | have q7 := Bt.call q7 hb | have q7 := Bt.call (Bt.drew q7) hb)); (try (first | have q8 := Bt.call q8 hb | have q8 := Bt.call (Bt.drew q8) hb)); (try (first | have q9 := Bt.call q9 hb | have q9 := Bt.call (Bt.drew q9) hb)); (try (first | have hB := Below.trans hB (Below.mono hb (by have := hB.size; omega)) | have hB := Below.trans (Below.drew hB) (Below.mono hb (by have := hB.size; simp; omega)))); (try have hz := Below.size hB); have q7 := qq; clear qq))
          rw [HM.out] at q7
          have zw := hB.size
          go_roundw
          case rel => exact ⟨k + 1, _, _, by omega, by simp, rfl, hcap7, by omega, hfz7, q7, hB⟩
          case measure => simp [intOf]; omega
      · obtain rfl : k = 65 := by omega
        rw [e65, ey] at qo
        clear e65 qA q3 q5
        go_wp2
        go_ret
        exact ⟨_, _, rfl, hcap, hge, qo, hfz, hB.trans (hL.mono hB.size)⟩
  · have ey : x * absI y = x * y := by unfold absI; rw [if_neg s]
    obtain ⟨A, hA⟩ : ∃ A, A = x := ⟨_, rfl⟩
    go_enter Try.func29, Try.ntmps29
    go_wp2_with (first
  | (go_at_call 22; have _t := tok1; refine (rint_any _ hx _ (by omega) (by omega) _).mono ?_; rintro e wk ⟨g1, c1, rfl, hcap1, hge1, qq, hfz1, hb⟩; (try have hs := sb_below (by assumption) hb); (try (first | have q1 := Bt.call q1 hb | have q1 := Bt.call (Bt.drew q1) hb)); (try (first | have q2 := Bt.call q2 hb | have q2 := Bt.call (Bt.drew q2) hb)); (try (first | have q3 := Bt.call q3 hb | have q3 := Bt.call (Bt.drew q3) hb)); (try (first | have q4 := Bt.call q4 hb | have q4 := Bt.call (Bt.drew q4) hb)); (try (first | have q5 := Bt.call q5 hb | have q5 := Bt.call (Bt.drew q5) hb)); (try (first | have q6 := Bt.call q6 hb | have q6 := Bt.call (Bt.drew q6) hb)); (try (first | have q7 := Bt.call q7 hb | have q7 := Bt.call (Bt.drew q7) hb)); (try (first | have q8 := Bt.call q8 hb | have q8 := Bt.call (Bt.drew q8) hb)); (try (first | have q9 := Bt.call q9 hb | have q9 := Bt.call (Bt.drew q9) hb)); (try (first | have hB := Below.trans hB (Below.mono hb (by have := hB.size; omega)) | have hB := Below.trans (Below.drew hB) (Below.mono hb (by have := hB.size; simp; omega)))); (try have hz := Below.size hB); have q1 := qq; clear qq; clear tok1 _t)
  | (go_at_call 22; have _t := tok2; refine (rint_any _ hy 64 (by omega) (by omega) _).mono ?_; rintro e wk ⟨g2, c2, rfl, hcap2, hge2, qq, hfz2, hb⟩; (try have hs := sb_below (by assumption) hb); (try (first | have q1 := Bt.call q1 hb | have q1 := Bt.call (Bt.drew q1) hb)); (try (first | have q2 := Bt.call q2 hb | have q2 := Bt.call (Bt.drew q2) hb)); (try (first | have q3 := Bt.call q3 hb | have q3 := Bt.call (Bt.drew q3) hb)); (try (first | have q4 := Bt.call q4 hb | have q4 := Bt.call (Bt.drew q4) hb)); (try (first | have q5 := Bt.call q5 hb | have q5 := Bt.call (Bt.drew q5) hb)); (try (first | have q6 := Bt.call q6 hb | have q6 := Bt.call (Bt.drew q6) hb)); (try (first | have q7 := Bt.call q7 hb | have q7 := Bt.call (Bt.drew q7) hb)); (try (first | have q8 := Bt.call q8 hb | have q8 := Bt.call (Bt.drew q8) hb)); (try (first | have q9 := Bt.call q9 hb | have q9 := Bt.call (Bt.drew q9) hb)); (try (first | have hB := Below.trans hB (Below.mono hb (by have := hB.size; omega)) | have hB := Below.trans (Below.drew hB) (Below.mono hb (by have := hB.size; simp; omega)))); (try have hz := Below.size hB); have q2 := qq; clear qq; clear tok2 _t)
  | (go_at_call 22; refine (rint_any _ h0 _ (by omega) (by omega) _).mono ?_; rintro e wk ⟨g3, c3, rfl, hcap3, hge3, qq, hfz3, hb⟩; (try have hs := sb_below (by assumption) hb); (try (first | have q1 := Bt.call q1 hb | have q1 := Bt.call (Bt.drew q1) hb)); (try (first | have q2 := Bt.call q2 hb | have q2 := Bt.call (Bt.drew q2) hb)); (try (first | have q3 := Bt.call q3 hb | have q3 := Bt.call (Bt.drew q3) hb)); (try (first | have q4 := Bt.call q4 hb | have q4 := Bt.call (Bt.drew q4) hb)); (try (first | have q5 := Bt.call q5 hb | have q5 := Bt.call (Bt.drew q5) hb)); (try (first | have q6 := Bt.call q6 hb | have q6 := Bt.call (Bt.drew q6) hb)); (try (first | have q7 := Bt.call q7 hb | have q7 := Bt.call (Bt.drew q7) hb)); (try (first | have q8 := Bt.call q8 hb | have q8 := Bt.call (Bt.drew q8) hb)); (try (first | have q9 := Bt.call q9 hb | have q9 := Bt.call (Bt.drew q9) hb)); (try (first | have hB := Below.trans hB (Below.mono hb (by have := hB.size; omega)) | have hB := Below.trans (Below.drew hB) (Below.mono hb (by have := hB.size; simp; omega)))); (try have hz := Below.size hB); have q3 := qq; clear qq)
  | (go_at_call 20; refine (rneg_any _ _ _ _ (by omega) (by omega) _ (by assumption)).mono ?_; rintro e wk ⟨g4, c4, rfl, hcap4, hge4, qq, hfz4, hb⟩; (try have hs := sb_below (by assumption) hb); (try (first | have q1 := Bt.call q1 hb | have q1 := Bt.call (Bt.drew q1) hb)); (try (first | have q2 := Bt.call q2 hb | have q2 := Bt.call (Bt.drew q2) hb)); (try (first | have q3 := Bt.call q3 hb | have q3 := Bt.call (Bt.drew q3) hb)); (try (first | have q4 := Bt.call q4 hb | have q4 := Bt.call (Bt.drew q4) hb)); (try (first | have q5 := Bt.call q5 hb | have q5 := Bt.call (Bt.drew q5) hb)); (try (first | have q6 := Bt.call q6 hb | have q6 := Bt.call (Bt.drew q6) hb)); (try (first | have q7 := Bt.call q7 hb | have q7 := Bt.call (Bt.drew q7) hb)); (try (first | have q8 := Bt.call q8 hb | have q8 := Bt.call (Bt.drew q8) hb)); (try (first | have q9 := Bt.call q9 hb | have q9 := Bt.call (Bt.drew q9) hb)); (try (first | have hB := Below.trans hB (Below.mono hb (by have := hB.size; omega)) | have hB := Below.trans (Below.drew hB) (Below.mono hb (by have := hB.size; simp; omega)))); (try have hz := Below.size hB); have q4 := qq; clear qq)
  | (go_at_call 54; refine (rsize_any _ _ _ 64 iy (by omega) (by omega) _ (by assumption)).mono ?_; rintro e wk ⟨g5, c5, rfl, hcap5, hge5, qq, hfz5, hb⟩; (try have hs := sb_below (by assumption) hb); (try (first | have q1 := Bt.call q1 hb | have q1 := Bt.call (Bt.drew q1) hb)); (try (first | have q2 := Bt.call q2 hb | have q2 := Bt.call (Bt.drew q2) hb)); (try (first | have q3 := Bt.call q3 hb | have q3 := Bt.call (Bt.drew q3) hb)); (try (first | have q4 := Bt.call q4 hb | have q4 := Bt.call (Bt.drew q4) hb)); (try (first | have q5 := Bt.call q5 hb | have q5 := Bt.call (Bt.drew q5) hb)); (try (first | have q6 := Bt.call q6 hb | have q6 := Bt.call (Bt.drew q6) hb)); (try (first | have q7 := Bt.call q7 hb | have q7 := Bt.call (Bt.drew q7) hb)); (try (first | have q8 := Bt.call q8 hb | have q8 := Bt.call (Bt.drew q8) hb)); (try (first | have q9 := Bt.call q9 hb | have q9 := Bt.call (Bt.drew q9) hb)); (try (first | have hB := Below.trans hB (Below.mono hb (by have := hB.size; omega)) | have hB := Below.trans (Below.drew hB) (Below.mono hb (by have := hB.size; simp; omega)))); (try have hz := Below.size hB); have q5 := qq; clear qq))
    replace ey : A * absI y = x * y := by rw [hA]; exact ey
    have qA := q1
    rw [← hA] at qA
    have zg : w.heap.size ≤ g3 := by omega
    clear q1 q2 hA
    have zB := hB.size
    have e65 : absI y % 2 ^ 65 = absI y := Int.emod_eq_of_lt y0 (by omega)
    go_loopw [9, 10] (fun v i wr => ∃ (k g c : Nat), k ≤ 65 ∧ i = .int .i64 k ∧ v = .slice (some ⟨g, 0, none⟩) n c ∧ n ≤ c ∧ w.heap.size ≤ g ∧ (∀ i, wr.frozen? ⟨g, i, none⟩ = false) ∧ Bt wr g n (A * (absI y % 2 ^ k)) ∧ Below wk.heap.size wk wr) (fun _ i _ => 65 - (intOf i).toNat)
    case atStart => exact ⟨0, g3, c3, by omega, rfl, rfl, hcap3, zg, hfz3, by simpa [Int.emod_one] using q3, Below.refl _ _⟩
    case round =>
      obtain ⟨k, g, c, hk, rfl, rfl, hcap, hge, hfz, qo, hL⟩ := hrel
      have zr := hL.size
      by_cases hlt : k < 65
      · have p1 := qA.call hL
        have c1 := (q5.call hL).2 k hlt
        have hm := mod_more A (absI y) k
        rcases (by have := bitI_01 k (absI y); omega : bitI k (absI y) = 0 ∨ bitI k (absI y) = 1) with hb0 | hb1
        · rw [hb0] at c1 hm
          have hm' : A * (absI y % 2 ^ k) = A * (absI y % 2 ^ (k + 1)) := by omega
          rw [hm'] at qo
          clear hm hm' hb0 qA q3 q5 p1
          go_wp2
          go_roundw
          case rel => exact ⟨k + 1, g, c, by omega, by simp, rfl, hcap, hge, hfz, qo, hL⟩
          case measure => simp [intOf]; omega
        · rw [hb1] at c1 hm
          have hm' : A * (absI y % 2 ^ k) + A * 2 ^ k = A * (absI y % 2 ^ (k + 1)) := by omega
          have HM := Lib.hid hm'
          have qoo := qo
          clear hm hm' hb1 qA q3 q5 hB qo
          have hB := hL
          have q1 := p1
          have q2 := qoo
          clear p1 qoo
          go_wp2_with (first
            | (go_at_call 34; refine (rshl_any _ _ k _ _ (by omega) hn0 hn _ (by assumption)).mono ?_; rintro e wk ⟨g6, c6, rfl, hcap6, hge6, qq, hfz6, hb⟩; (try have hs := sb_below (by assumption) hb); (try (first | have q1 := Bt.call q1 hb | have q1 := Bt.call (Bt.drew q1) hb)); (try (first | have q2 := Bt.call q2 hb | have q2 := Bt.call (Bt.drew q2) hb)); (try (first | have q3 := Bt.call q3 hb | have q3 := Bt.call (Bt.drew q3) hb)); (try (first | have q4 := Bt.call q4 hb | have q4 := Bt.call (Bt.drew q4) hb)); (try (first | have q5 := Bt.call q5 hb | have q5 := Bt.call (Bt.drew q5) hb)); (try (first | have q6 := Bt.call q6 hb | have q6 := Bt.call (Bt.drew q6) hb)); (try (first | have q7 := Bt.call q7 hb | have q7 := Bt.call (Bt.drew q7) hb)); (try (first | have q8 := Bt.call q8 hb | have q8 := Bt.call (Bt.drew q8) hb)); (try (first | have q9 := Bt.call q9 hb | have q9 := Bt.call (Bt.drew q9) hb)); (try (first | have hB := Below.trans hB (Below.mono hb (by have := hB.size; omega)) | have hB := Below.trans (Below.drew hB) (Below.mono hb (by have := hB.size; simp; omega)))); (try have hz := Below.size hB); have q6 := qq; clear qq)
            | (go_at_call 19; refine (radd_any _ _ _ _ _ _ _ hn0 hn _ (by assumption) (by assumption)).mono ?_; rintro e wk ⟨g7, c7, rfl, hcap7, hge7, qq, hfz7, hb⟩; (try have hs := sb_below (by assumption) hb); (try (first | have q1 := Bt.call q1 hb | have q1 := Bt.call (Bt.drew q1) hb)); (try (first | have q2 := Bt.call q2 hb | have q2 := Bt.call (Bt.drew q2) hb)); (try (first | have q3 := Bt.call q3 hb | have q3 := Bt.call (Bt.drew q3) hb)); (try (first | have q4 := Bt.call q4 hb | have q4 := Bt.call (Bt.drew q4) hb)); (try (first | have q5 := Bt.call q5 hb | have q5 := Bt.call (Bt.drew q5) hb)); (try (first | have q6 := Bt.call q6 hb | have q6 := Bt.call (Bt.drew q6) hb)); (try (first | have q7 := Bt.call q7 hb | have q7 := Bt.call (Bt.drew q7) hb)); (try (first | have q8 := Bt.call q8 hb | have q8 := Bt.call (Bt.drew q8) hb)); (try (first | have q9 := Bt.call q9 hb | have q9 := Bt.call (Bt.drew q9) hb)); (try (first | have hB := Below.trans hB (Below.mono hb (by have := hB.size; omega)) | have hB := Below.trans (Below.drew hB) (Below.mono hb (by have := hB.size; simp; omega)))); (try have hz := Below.size hB); have q7 := qq; clear qq))
          rw [HM.out] at q7
          have zw := hB.size
          go_roundw
          case rel => exact ⟨k + 1, _, _, by omega, by simp, rfl, hcap7, by omega, hfz7, q7, hB⟩
          case measure => simp [intOf]; omega
      · obtain rfl : k = 65 := by omega
        rw [e65, ey] at qo
        clear e65 qA q3 q5
        go_wp2
        go_ret
        exact ⟨_, _, rfl, hcap, hge, qo, hfz, hB.trans (hL.mono hB.size)⟩
end Go.Proofs.Ytdnccplmpgcleaa
