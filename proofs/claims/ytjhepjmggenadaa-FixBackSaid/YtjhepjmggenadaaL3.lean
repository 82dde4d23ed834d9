import Derived.Test.YtjhepjmggenadaaL0
/- Long numbers: are all bits below a place 0? -/
namespace Go.Proofs.Ytjhepjmggenadaa
open Go.RowKit

theorem bare_word (x : Int) (k : Int) (h0 : 0 < k) (h1 : k < 64) : (IntKind.u64.wrap (x * 2 ^ (64 - k).toNat) = 0) ↔ x % 2 ^ k.toNat = 0 := by
  have hs := pow_split k.toNat (by omega)
  have hp := pow_pos' k.toNat
  have hr := pow_pos' (64 - k.toNat)
  rw [show (64 - k).toNat = 64 - k.toNat by omega, u64w, ← hs, Int.mul_comm x, Int.mul_comm (2 ^ k.toNat), Int.mul_emod_mul_of_pos _ _ hr]
  constructor
  · intro h
    rcases Int.mul_eq_zero.1 h with h2 | h2
    · omega
    · exact h2
  · intro h; rw [h]; simp
/-- Word by word. -/
theorem bare_iff (a n : Int) (h0 : 0 ≤ n) (h1 : n ≤ 190) :
    (n ≤ 64 → (a % 2 ^ n.toNat = 0 ↔ q0 a % 2 ^ n.toNat = 0)) ∧
    (64 ≤ n → n ≤ 128 → (a % 2 ^ n.toNat = 0 ↔ q0 a = 0 ∧ q1 a % 2 ^ (n - 64).toNat = 0)) ∧
    (128 ≤ n → (a % 2 ^ n.toNat = 0 ↔ q0 a = 0 ∧ q1 a = 0 ∧ q2 a % 2 ^ (n - 128).toNat = 0)) := by
  have key : ∀ (X : Int) (k : Nat), k ≤ 64 → X % 18446744073709551616 % 2 ^ k = X % 2 ^ k := fun X k hk => Int.emod_emod_of_dvd _ ⟨2 ^ (64 - k), (pow_split k hk).symm⟩
  have up : ∀ (X : Int) (k : Nat), (X % (18446744073709551616 * 2 ^ k) = 0 ↔ X % 18446744073709551616 = 0 ∧ X / 18446744073709551616 % 2 ^ k = 0) := by
    intro X k
    have hp := pow_pos' k
    generalize (2 : Int) ^ k = P at *
    have e := Int.mul_ediv_add_emod X 18446744073709551616
    have e2 := Int.mul_ediv_add_emod (X / 18446744073709551616) P
    constructor
    · intro h
      have hd := Int.dvd_of_emod_eq_zero h
      have h3 : X % 18446744073709551616 = 0 := Int.emod_eq_zero_of_dvd (Int.dvd_trans ⟨P, rfl⟩ hd)
      refine ⟨h3, Int.emod_eq_zero_of_dvd ?_⟩
      obtain ⟨c, hc⟩ := hd
      refine ⟨c, ?_⟩
      rw [hc, Int.mul_assoc, Int.mul_ediv_cancel_left _ (by omega)]
    · rintro ⟨h3, h4⟩
      apply Int.emod_eq_zero_of_dvd
      obtain ⟨c, hc⟩ := Int.dvd_of_emod_eq_zero h4
      exact ⟨c, by rw [Int.mul_assoc, ← hc]; omega⟩
  refine ⟨fun h => ?_, fun h2 h3 => ?_, fun h2 => ?_⟩
  · unfold q0; rw [key a _ (by omega)]
  · have e : (2 : Int) ^ n.toNat = 18446744073709551616 * 2 ^ (n - 64).toNat := by
      rw [show n.toNat = 64 + (n - 64).toNat by omega, Int.pow_add, p64]
    rw [e, up]; unfold q0 q1; rw [key _ _ (by omega)]
  · have e : (2 : Int) ^ n.toNat = 18446744073709551616 * 2 ^ (64 + (n - 128).toNat) := by
      rw [show n.toNat = 64 + (64 + (n - 128).toNat) by omega, Int.pow_add, p64]
    have e2 : (2 : Int) ^ (64 + (n - 128).toNat) = 18446744073709551616 * 2 ^ (n - 128).toNat := by rw [Int.pow_add, p64]
    rw [e, up, e2, up]; unfold q0 q1 q2; rw [key _ _ (by omega)]

theorem bne_of {x y : Int} (h : x ≠ y) : (x != y) = true := by simpa using h
theorem bne_no {x y : Int} (h : x = y) : (x != y) = false := by simpa using h

set_option maxHeartbeats 2000000 in
theorem bareq_any (a n : Int) (h0 : 0 ≤ n) (h1 : n ≤ 190) (w : World) :
    Calls Try.prog 107 #[.agg #[.int .u64 (q0 a), .int .u64 (q1 a), .int .u64 (q2 a)], .int .i64 n] w fun e w' =>
      e = .returned (.bool (decide (a % 2 ^ n.toNat = 0))) ∧ Below w.heap.size w w' := by
  obtain ⟨B1, B2, B3⟩ := bare_iff a n h0 h1
  by_cases c0 : n = 0
  · have e : decide (a % 2 ^ n.toNat = 0) = true := by rw [c0]; simp
    rw [e]
    clear e B1 B2 B3
    subst c0
    go_enter Try.func107, Try.ntmps107
    go_wp2
    refine wp_loop_rounds 4 ?_
    repeat any_goals (rw [rounds_succ]; go_wp2)
    go_ret
    exact ⟨rfl, (by repeat (first | (with_reducible exact Below.refl _ _) | (with_reducible assumption) | (with_reducible refine Below.drew ?_) | (with_reducible refine Below.alloc ?_ ?_ _) | (with_reducible refine Below.setCell ?_ ?_ _) | (with_reducible refine Below.trans ?_ (Below.mono hb ?_)) | (with_reducible refine Below.trans ?_ (Below.mono hb1 ?_)) | (with_reducible refine Below.trans ?_ (Below.mono hb2 ?_)) | (with_reducible refine Below.trans ?_ (Below.mono hb3 ?_)) | (with_reducible refine Below.trans ?_ (Below.mono hb4 ?_)) | (with_reducible refine Below.trans ?_ (Below.mono hb5 ?_)) | (with_reducible refine Below.trans ?_ (Below.mono hb6 ?_)) | (with_reducible refine Below.trans ?_ (Below.mono hb7 ?_)) | (with_reducible refine Below.trans ?_ (Below.mono hb8 ?_)) | (with_reducible refine Below.trans ?_ (Below.mono hb9 ?_)) | (focus (first | omega | (simp; done) | (simp; omega))) | exact hB))⟩
  by_cases c1 : n < 64
  · have hb := bare_word (q0 a) n (by omega) c1
    have hd : decide (a % 2 ^ n.toNat = 0) = decide (IntKind.u64.wrap (q0 a * 2 ^ (64 - n).toNat) = 0) := by rw [decide_eq_decide, B1 (by omega), hb]
    rw [hd]
    clear hd B1 B2 B3
    have hn : 0 < n := by omega
    by_cases t : IntKind.u64.wrap (q0 a * 2 ^ (64 - n).toNat) = 0
    · have t1 := bne_no t
      rw [decide_eq_true t]
      clear t hb c0
      go_enter Try.func107, Try.ntmps107
      go_wp2
      refine wp_loop_rounds 4 ?_
      repeat any_goals (rw [rounds_succ]; go_wp2)
      go_ret
      exact ⟨rfl, (by repeat (first | (with_reducible exact Below.refl _ _) | (with_reducible assumption) | (with_reducible refine Below.drew ?_) | (with_reducible refine Below.alloc ?_ ?_ _) | (with_reducible refine Below.setCell ?_ ?_ _) | (with_reducible refine Below.trans ?_ (Below.mono hb ?_)) | (with_reducible refine Below.trans ?_ (Below.mono hb1 ?_)) | (with_reducible refine Below.trans ?_ (Below.mono hb2 ?_)) | (with_reducible refine Below.trans ?_ (Below.mono hb3 ?_)) | (with_reducible refine Below.trans ?_ (Below.mono hb4 ?_)) | (with_reducible refine Below.trans ?_ (Below.mono hb5 ?_)) | (with_reducible refine Below.trans ?_ (Below.mono hb6 ?_)) | (with_reducible refine Below.trans ?_ (Below.mono hb7 ?_)) | (with_reducible refine Below.trans ?_ (Below.mono hb8 ?_)) | (with_reducible refine Below.trans ?_ (Below.mono hb9 ?_)) | (focus (first | omega | (simp; done) | (simp; omega))) | exact hB))⟩
    · have t1 := bne_of t
      rw [decide_eq_false t]
      clear t hb c0
      go_enter Try.func107, Try.ntmps107
      go_wp2
      refine wp_loop_rounds 4 ?_
      repeat any_goals (rw [rounds_succ]; go_wp2)
      go_ret
      exact ⟨rfl, (by repeat (first | (with_reducible exact Below.refl _ _) | (with_reducible assumption) | (with_reducible refine Below.drew ?_) | (with_reducible refine Below.alloc ?_ ?_ _) | (with_reducible refine Below.setCell ?_ ?_ _) | (with_reducible refine Below.trans ?_ (Below.mono hb ?_)) | (with_reducible refine Below.trans ?_ (Below.mono hb1 ?_)) | (with_reducible refine Below.trans ?_ (Below.mono hb2 ?_)) | (with_reducible refine Below.trans ?_ (Below.mono hb3 ?_)) | (with_reducible refine Below.trans ?_ (Below.mono hb4 ?_)) | (with_reducible refine Below.trans ?_ (Below.mono hb5 ?_)) | (with_reducible refine Below.trans ?_ (Below.mono hb6 ?_)) | (with_reducible refine Below.trans ?_ (Below.mono hb7 ?_)) | (with_reducible refine Below.trans ?_ (Below.mono hb8 ?_)) | (with_reducible refine Below.trans ?_ (Below.mono hb9 ?_)) | (focus (first | omega | (simp; done) | (simp; omega))) | exact hB))⟩
  by_cases z0 : q0 a = 0
  · have z0' := bne_no z0
    by_cases c2 : n < 128
    · obtain ⟨m, hm⟩ : ∃ m, n - 64 = m := ⟨_, rfl⟩
      have hd : decide (a % 2 ^ n.toNat = 0) = decide (q1 a % 2 ^ m.toNat = 0) := by rw [decide_eq_decide, B2 (by omega) (by omega), hm]; simp [z0]
      rw [hd]
      clear hd B1 B2 B3
      by_cases m0 : m = 0
      · have e : decide (q1 a % 2 ^ m.toNat = 0) = true := by rw [m0]; simp
        rw [e]
        obtain rfl : n = 64 := by omega
        clear e m0 hm c0 c1 c2 z0
        go_enter Try.func107, Try.ntmps107
        go_wp2
        refine wp_loop_rounds 4 ?_
        repeat any_goals (rw [rounds_succ]; go_wp2)
        go_ret
        exact ⟨rfl, (by repeat (first | (with_reducible exact Below.refl _ _) | (with_reducible assumption) | (with_reducible refine Below.drew ?_) | (with_reducible refine Below.alloc ?_ ?_ _) | (with_reducible refine Below.setCell ?_ ?_ _) | (with_reducible refine Below.trans ?_ (Below.mono hb ?_)) | (with_reducible refine Below.trans ?_ (Below.mono hb1 ?_)) | (with_reducible refine Below.trans ?_ (Below.mono hb2 ?_)) | (with_reducible refine Below.trans ?_ (Below.mono hb3 ?_)) | (with_reducible refine Below.trans ?_ (Below.mono hb4 ?_)) | (with_reducible refine Below.trans ?_ (Below.mono hb5 ?_)) | (with_reducible refine Below.trans ?_ (Below.mono hb6 ?_)) | (with_reducible refine Below.trans ?_ (Below.mono hb7 ?_)) | (with_reducible refine Below.trans ?_ (Below.mono hb8 ?_)) | (with_reducible refine Below.trans ?_ (Below.mono hb9 ?_)) | (focus (first | omega | (simp; done) | (simp; omega))) | exact hB))⟩
      · have hb := bare_word (q1 a) m (by omega) (by omega)
        rw [decide_eq_decide.2 hb.symm]
        have hn : 0 < m := by omega
        have hn2 : m < 64 := by omega
        have c3 : 64 < n := by omega
        by_cases t : IntKind.u64.wrap (q1 a * 2 ^ (64 - m).toNat) = 0
        · have t1 := bne_no t
          rw [decide_eq_true t]
          clear t hb c0 c1 z0 m0
          go_enter Try.func107, Try.ntmps107
          go_wp2
          refine wp_loop_rounds 4 ?_
          repeat any_goals (rw [rounds_succ]; go_wp2)
          go_ret
          exact ⟨rfl, (by repeat (first | (with_reducible exact Below.refl _ _) | (with_reducible assumption) | (with_reducible refine Below.drew ?_) | (with_reducible refine Below.alloc ?_ ?_ _) | (with_reducible refine Below.setCell ?_ ?_ _) | (with_reducible refine Below.trans ?_ (Below.mono hb ?_)) | (with_reducible refine Below.trans ?_ (Below.mono hb1 ?_)) | (with_reducible refine Below.trans ?_ (Below.mono hb2 ?_)) | (with_reducible refine Below.trans ?_ (Below.mono hb3 ?_)) | (with_reducible refine Below.trans ?_ (Below.mono hb4 ?_)) | (with_reducible refine Below.trans ?_ (Below.mono hb5 ?_)) | (with_reducible refine Below.trans ?_ (Below.mono hb6 ?_)) | (with_reducible refine Below.trans ?_ (Below.mono hb7 ?_)) | (with_reducible refine Below.trans ?_ (Below.mono hb8 ?_)) | (with_reducible refine Below.trans ?_ (Below.mono hb9 ?_)) | (focus (first | omega | (simp; done) | (simp; omega))) | exact hB))⟩
        · have t1 := bne_of t
          rw [decide_eq_false t]
          clear t hb c0 c1 z0 m0
          go_enter Try.func107, Try.ntmps107
          go_wp2
          refine wp_loop_rounds 4 ?_
          repeat any_goals (rw [rounds_succ]; go_wp2)
          go_ret
          exact ⟨rfl, (by repeat (first | (with_reducible exact Below.refl _ _) | (with_reducible assumption) | (with_reducible refine Below.drew ?_) | (with_reducible refine Below.alloc ?_ ?_ _) | (with_reducible refine Below.setCell ?_ ?_ _) | (with_reducible refine Below.trans ?_ (Below.mono hb ?_)) | (with_reducible refine Below.trans ?_ (Below.mono hb1 ?_)) | (with_reducible refine Below.trans ?_ (Below.mono hb2 ?_)) | (with_reducible refine Below.trans ?_ (Below.mono hb3 ?_)) | (with_reducible refine Below.trans ?_ (Below.mono hb4 ?_)) | (with_reducible refine Below.trans ?_ (Below.mono hb5 ?_)) | (with_reducible refine Below.trans ?_ (Below.mono hb6 ?_)) | (with_reducible refine Below.trans ?_ (Below.mono hb7 ?_)) | (with_reducible refine Below.trans ?_ (Below.mono hb8 ?_)) | (with_reducible refine Below.trans ?_ (Below.mono hb9 ?_)) | (focus (first | omega | (simp; done) | (simp; omega))) | exact hB))⟩
    · by_cases z1 : q1 a = 0
      · have z1' := bne_no z1
        obtain ⟨m, hm⟩ : ∃ m, n - 128 = m := ⟨_, rfl⟩
        have hd : decide (a % 2 ^ n.toNat = 0) = decide (q2 a % 2 ^ m.toNat = 0) := by rw [decide_eq_decide, B3 (by omega), hm]; simp [z0, z1]
        rw [hd]
        clear hd B1 B2 B3
        by_cases m0 : m = 0
        · have e : decide (q2 a % 2 ^ m.toNat = 0) = true := by rw [m0]; simp
          rw [e]
          obtain rfl : n = 128 := by omega
          clear e m0 hm c0 c1 c2 z0 z1
          go_enter Try.func107, Try.ntmps107
          go_wp2
          refine wp_loop_rounds 4 ?_
          repeat any_goals (rw [rounds_succ]; go_wp2)
          go_ret
          exact ⟨rfl, (by repeat (first | (with_reducible exact Below.refl _ _) | (with_reducible assumption) | (with_reducible refine Below.drew ?_) | (with_reducible refine Below.alloc ?_ ?_ _) | (with_reducible refine Below.setCell ?_ ?_ _) | (with_reducible refine Below.trans ?_ (Below.mono hb ?_)) | (with_reducible refine Below.trans ?_ (Below.mono hb1 ?_)) | (with_reducible refine Below.trans ?_ (Below.mono hb2 ?_)) | (with_reducible refine Below.trans ?_ (Below.mono hb3 ?_)) | (with_reducible refine Below.trans ?_ (Below.mono hb4 ?_)) | (with_reducible refine Below.trans ?_ (Below.mono hb5 ?_)) | (with_reducible refine Below.trans ?_ (Below.mono hb6 ?_)) | (with_reducible refine Below.trans ?_ (Below.mono hb7 ?_)) | (with_reducible refine Below.trans ?_ (Below.mono hb8 ?_)) | (with_reducible refine Below.trans ?_ (Below.mono hb9 ?_)) | (focus (first | omega | (simp; done) | (simp; omega))) | exact hB))⟩
        · have hb := bare_word (q2 a) m (by omega) (by omega)
          rw [decide_eq_decide.2 hb.symm]
          have hn : 0 < m := by omega
          have hn2 : m < 64 := by omega
          have c3 : 128 < n := by omega
          by_cases t : IntKind.u64.wrap (q2 a * 2 ^ (64 - m).toNat) = 0
          · have t1 := bne_no t
            rw [decide_eq_true t]
            clear t hb c0 c1 c2 z0 z1 m0
            go_enter Try.func107, Try.ntmps107
            go_wp2
            refine wp_loop_rounds 4 ?_
            repeat any_goals (rw [rounds_succ]; go_wp2)
            go_ret
            exact ⟨rfl, (by repeat (first | (with_reducible exact Below.refl _ _) | (with_reducible assumption) | (with_reducible refine Below.drew ?_) | (with_reducible refine Below.alloc ?_ ?_ _) | (with_reducible refine Below.setCell ?_ ?_ _) | (with_reducible refine Below.trans ?_ (Below.mono hb ?_)) | (with_reducible refine Below.trans ?_ (Below.mono hb1 ?_)) | (with_reducible refine Below.trans ?_ (Below.mono hb2 ?_)) | (with_reducible refine Below.trans ?_ (Below.mono hb3 ?_)) | (with_reducible refine Below.trans ?_ (Below.mono hb4 ?_)) | (with_reducible refine Below.trans ?_ (Below.mono hb5 ?_)) | (with_reducible refine Below.trans ?_ (Below.mono hb6 ?_)) | (with_reducible refine Below.trans ?_ (Below.mono hb7 ?_)) | (with_reducible refine Below.trans ?_ (Below.mono hb8 ?_)) | (with_reducible refine Below.trans ?_ (Below.mono hb9 ?_)) | (focus (first | omega | (simp; done) | (simp; omega))) | exact hB))⟩
          · have t1 := bne_of t
            rw [decide_eq_false t]
            clear t hb c0 c1 c2 z0 z1 m0
            go_enter Try.func107, Try.ntmps107
            go_wp2
            refine wp_loop_rounds 4 ?_
            repeat any_goals (rw [rounds_succ]; go_wp2)
            go_ret
            exact ⟨rfl, (by repeat (first | (with_reducible exact Below.refl _ _) | (with_reducible assumption) | (with_reducible refine Below.drew ?_) | (with_reducible refine Below.alloc ?_ ?_ _) | (with_reducible refine Below.setCell ?_ ?_ _) | (with_reducible refine Below.trans ?_ (Below.mono hb ?_)) | (with_reducible refine Below.trans ?_ (Below.mono hb1 ?_)) | (with_reducible refine Below.trans ?_ (Below.mono hb2 ?_)) | (with_reducible refine Below.trans ?_ (Below.mono hb3 ?_)) | (with_reducible refine Below.trans ?_ (Below.mono hb4 ?_)) | (with_reducible refine Below.trans ?_ (Below.mono hb5 ?_)) | (with_reducible refine Below.trans ?_ (Below.mono hb6 ?_)) | (with_reducible refine Below.trans ?_ (Below.mono hb7 ?_)) | (with_reducible refine Below.trans ?_ (Below.mono hb8 ?_)) | (with_reducible refine Below.trans ?_ (Below.mono hb9 ?_)) | (focus (first | omega | (simp; done) | (simp; omega))) | exact hB))⟩
      · have e : decide (a % 2 ^ n.toNat = 0) = false := by rw [decide_eq_false_iff_not, B3 (by omega)]; simp [z1]
        rw [e]
        have z1' := bne_of z1
        have c3 : 64 ≤ n - 64 := by omega
        clear e B1 B2 B3 z0 z1 c0
        go_enter Try.func107, Try.ntmps107
        go_wp2
        refine wp_loop_rounds 4 ?_
        repeat any_goals (rw [rounds_succ]; go_wp2)
        go_ret
        exact ⟨rfl, (by repeat (first | (with_reducible exact Below.refl _ _) | (with_reducible assumption) | (with_reducible refine Below.drew ?_) | (with_reducible refine Below.alloc ?_ ?_ _) | (with_reducible refine Below.setCell ?_ ?_ _) | (with_reducible refine Below.trans ?_ (Below.mono hb ?_)) | (with_reducible refine Below.trans ?_ (Below.mono hb1 ?_)) | (with_reducible refine Below.trans ?_ (Below.mono hb2 ?_)) | (with_reducible refine Below.trans ?_ (Below.mono hb3 ?_)) | (with_reducible refine Below.trans ?_ (Below.mono hb4 ?_)) | (with_reducible refine Below.trans ?_ (Below.mono hb5 ?_)) | (with_reducible refine Below.trans ?_ (Below.mono hb6 ?_)) | (with_reducible refine Below.trans ?_ (Below.mono hb7 ?_)) | (with_reducible refine Below.trans ?_ (Below.mono hb8 ?_)) | (with_reducible refine Below.trans ?_ (Below.mono hb9 ?_)) | (focus (first | omega | (simp; done) | (simp; omega))) | exact hB))⟩
  · have e : decide (a % 2 ^ n.toNat = 0) = false := by
      rw [decide_eq_false_iff_not]
      by_cases c2 : n ≤ 128
      · rw [B2 (by omega) c2]; simp [z0]
      · rw [B3 (by omega)]; simp [z0]
    rw [e]
    have z0' := bne_of z0
    clear e B1 B2 B3 z0 c0
    go_enter Try.func107, Try.ntmps107
    go_wp2
    refine wp_loop_rounds 4 ?_
    repeat any_goals (rw [rounds_succ]; go_wp2)
    go_ret
    exact ⟨rfl, (by repeat (first | (with_reducible exact Below.refl _ _) | (with_reducible assumption) | (with_reducible refine Below.drew ?_) | (with_reducible refine Below.alloc ?_ ?_ _) | (with_reducible refine Below.setCell ?_ ?_ _) | (with_reducible refine Below.trans ?_ (Below.mono hb ?_)) | (with_reducible refine Below.trans ?_ (Below.mono hb1 ?_)) | (with_reducible refine Below.trans ?_ (Below.mono hb2 ?_)) | (with_reducible refine Below.trans ?_ (Below.mono hb3 ?_)) | (with_reducible refine Below.trans ?_ (Below.mono hb4 ?_)) | (with_reducible refine Below.trans ?_ (Below.mono hb5 ?_)) | (with_reducible refine Below.trans ?_ (Below.mono hb6 ?_)) | (with_reducible refine Below.trans ?_ (Below.mono hb7 ?_)) | (with_reducible refine Below.trans ?_ (Below.mono hb8 ?_)) | (with_reducible refine Below.trans ?_ (Below.mono hb9 ?_)) | (focus (first | omega | (simp; done) | (simp; omega))) | exact hB))⟩
end Go.Proofs.Ytjhepjmggenadaa
