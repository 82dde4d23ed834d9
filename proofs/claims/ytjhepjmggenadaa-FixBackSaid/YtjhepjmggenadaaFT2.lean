import Derived.Test.YtjhepjmggenadaaFT
import Derived.Test.YtjhepjmggenadaaG6
/- The reference's float64 of a number. -/
namespace Go.Proofs.Ytjhepjmggenadaa
open Go.RowKit
attribute [local go_sem ↓] Go.wp_at_zero Go.wp_at_succ

theorem rndN_int (n d : Nat) : ((rndN n d : Nat) : Int) = rnd (n : Int) (d : Int) := by
  unfold rndN rnd
  rw [← Int.natCast_ediv, ← Int.natCast_emod]
  generalize n / d = q
  generalize n % d = r
  split <;> split <;> omega
/-- What the last loop begins with: d doublings are left, and the word comes out as R. -/
def Fin5 (mm pp : Int) (d : Nat) (R : Int) : Prop :=
  0 < mm ∧ 4503599627370496 ≤ mm * 2 ^ d ∧ mm * 2 ^ d < 9007199254740992 ∧ (∀ j, j < d → mm * 2 ^ j < 4503599627370496) ∧ R = (pp - d) * 4503599627370496 + (mm * 2 ^ d - 4503599627370496) ∧ 900 ≤ pp - d ∧ pp ≤ 1200
theorem fin_dbl {mm : Int} (h0 : 0 < mm) {d : Nat} (h : mm * 2 ^ d < 9007199254740992) : ∀ j, j < d → mm * 2 ^ j < 4503599627370496 := by
  intro j hj
  obtain ⟨i, rfl⟩ : ∃ i, d = j + 1 + i := ⟨d - (j + 1), by omega⟩
  rw [Int.pow_add, Int.pow_succ, ← Int.mul_assoc, ← Int.mul_assoc] at h
  have hp : (1 : Int) ≤ 2 ^ i := by have := pw_pos i; omega
  have hq : 0 ≤ mm * 2 ^ j := Int.mul_nonneg (by omega) (by have := pw_pos j; omega)
  have := Int.mul_le_mul_of_nonneg_left hp (show 0 ≤ mm * 2 ^ j * 2 by omega)
  omega
/-- The rung. -/
def rungN (M : Nat) : Nat := (M.log2 + 990) * 4503599627370496 + kpt M
theorem fin_all {M : Nat} (h : 0 < M) (hM : M ≤ 9223372036854775808) {K : Int} (hK : K = rnd (M : Int) (2 ^ (M.log2 - 52))) :
    (K = 9007199254740992 → Fin5 4503599627370496 (1043 + ((M.log2 - 52 : Nat) : Int) + 1) 0 (rungN M)) ∧ (¬ K = 9007199254740992 → ∃ d, Fin5 K (1043 + ((M.log2 - 52 : Nat) : Int)) d (rungN M)) := by
  have hL : M.log2 < 64 := (Nat.log2_lt (by omega)).2 (by omega)
  have kb := kpt_bd h
  by_cases hl : M.log2 ≤ 52
  · have e0 : M.log2 - 52 = 0 := by omega
    rw [e0, rnd_one] at hK
    have hk : kpt M = M * 2 ^ (52 - M.log2) := by unfold kpt; rw [if_pos hl]
    have hi : M < 2 ^ 53 := Nat.lt_of_lt_of_le (log_hi h) (Nat.pow_le_pow_right (by omega) (by omega))
    have hk2 : kpt M < 9007199254740992 := by
      rw [hk]
      have a := Nat.mul_lt_mul_of_pos_right (log_hi h) (Nat.two_pow_pos (52 - M.log2))
      rw [← Nat.pow_add, show M.log2 + 1 + (52 - M.log2) = 53 by omega] at a
      exact a
    have ec : ((M * 2 ^ (52 - M.log2) : Nat) : Int) = (M : Int) * 2 ^ (52 - M.log2) := by rw [Int.natCast_mul, Int.natCast_pow]; rfl
    rw [hk] at kb hk2
    refine ⟨fun e => by omega, fun _ => ⟨52 - M.log2, ?_⟩⟩
    rw [e0, hK]
    have u : (M : Int) * 2 ^ (52 - M.log2) < 9007199254740992 := by omega
    refine ⟨by omega, by omega, u, fin_dbl (by omega) u, ?_, by omega, by omega⟩
    unfold rungN
    rw [hk]
    omega
  · have hk : kpt M = rndN M (2 ^ (M.log2 - 52)) := by unfold kpt; rw [if_neg hl]
    have e1 : K = ((kpt M : Nat) : Int) := by rw [hk, rndN_int, hK, Int.natCast_pow]; rfl
    refine ⟨fun e => ⟨by omega, by omega, by omega, fun j hj => absurd hj (by omega), ?_, by omega, by omega⟩, fun e => ⟨0, by omega, by omega, by omega, fun j hj => absurd hj (by omega), ?_, by omega, by omega⟩⟩
    · unfold rungN; omega
    · unfold rungN; omega
theorem fl_hi {M : Nat} (h : 0 < M) {j : Nat} (hj : j < M.log2 - 52) : (9007199254740992 : Int) ≤ (M : Int) / 2 ^ j := by
  have l := log_lo h
  obtain ⟨i, hi⟩ : ∃ i, M.log2 = 53 + i + j := ⟨M.log2 - 53 - j, by omega⟩
  rw [hi, Nat.pow_add, Nat.pow_add] at l
  have hp : 0 < 2 ^ j := Nat.two_pow_pos j
  have a := (Nat.le_div_iff_mul_le hp).2 l
  have b := Nat.mul_le_mul_left (2 ^ 53) (Nat.two_pow_pos i)
  have e : (M : Int) / 2 ^ j = ((M / 2 ^ j : Nat) : Int) := by rw [Int.natCast_ediv, Int.natCast_pow]; rfl
  rw [e]
  omega
theorem fl_lo {M : Nat} (h : 0 < M) : (M : Int) / 2 ^ (M.log2 - 52) < 9007199254740992 := by
  have u := log_hi h
  have hp : 0 < 2 ^ (M.log2 - 52) := Nat.two_pow_pos _
  have a : M / 2 ^ (M.log2 - 52) < 2 ^ 53 := by
    refine (Nat.div_lt_iff_lt_mul hp).2 (Nat.lt_of_lt_of_le u ?_)
    rw [← Nat.pow_add]
    exact Nat.pow_le_pow_right (by omega) (by omega)
  have e : (M : Int) / 2 ^ (M.log2 - 52) = ((M / 2 ^ (M.log2 - 52) : Nat) : Int) := by rw [Int.natCast_ediv, Int.natCast_pow]; rfl
  rw [e]
  omega
theorem rfloat_zero (w : World) : Calls Try.prog 32 #[.int .i64 0] w fun e w' => e = .returned (.int .u64 0) ∧ w = w' := by
  go_enter Try.func32, Try.ntmps32
  go_wp2_with fail
  go_ret
  exact ⟨rfl, rfl⟩
set_option maxHeartbeats 4000000 in
theorem rfloat_any (a : Int) (ha : In64 a) (h0 : ¬ a = 0) (w : World) : Calls Try.prog 32 #[.int .i64 a] w fun e w' => e = .returned (.int .u64 ((fbI a : Nat) : Int)) ∧ w = w' := by
  have SZ := Lib.hid (fun W => size02_any a ha W)
  unfold In64 at ha
  have hp : 0 < a.natAbs := by omega
  have hM : a.natAbs ≤ 9223372036854775808 := by omega
  have eA : absI a = ((a.natAbs : Nat) : Int) := by unfold absI; split <;> omega
  rw [eA] at SZ
  have FA := Lib.hid (fun K hK => fin_all (K := K) hp hM hK)
  have FH := Lib.hid (fun j hj => fl_hi (j := j) hp hj)
  have FL := fl_lo hp
  have hL : a.natAbs.log2 < 64 := (Nat.log2_lt (by omega)).2 (by omega)
  have kb := kpt_bd hp
  obtain ⟨R, hR⟩ : ∃ R : Int, R = ((rungN a.natAbs : Nat) : Int) := ⟨_, rfl⟩
  have HW : Hid ((if a < 0 then R + 9223372036854775808 else R) = ((fbI a : Nat) : Int)) := Lib.hid (by
    rw [hR]
    unfold fbI rungN
    rw [if_neg h0]
    unfold Ieee.Format.word
    rw [sw64]
    by_cases hs : a < 0
    · rw [if_pos hs, decide_eq_true hs, if_pos rfl]; omega
    · rw [if_neg hs, decide_eq_false hs, if_neg (by simp)])
  rw [← hR] at FA
  generalize ((fbI a : Nat) : Int) = res at *
  clear hR kb eA
  obtain ⟨k, hk⟩ : ∃ k, k = a.natAbs.log2 - 52 := ⟨_, rfl⟩
  rw [← hk] at FA FH FL
  have hk2 : k < 12 := by omega
  have m0 : (0 : Int) ≤ ((a.natAbs : Nat) : Int) := by omega
  have m1 : ((a.natAbs : Nat) : Int) ≤ 9223372036854775808 := by omega
  generalize ((a.natAbs : Nat) : Int) = m at *
  clear hk hL hp hM
  go_enter Try.func32, Try.ntmps32
  go_wp2_with (go_at_call 71; refine (SZ.out _).mono ?_; rintro e w1 ⟨rfl, rfl⟩)
  go_loopw [3, 4, 5, 6] (fun q p l r wr => ∃ j : Nat, j ≤ k ∧ q = .int .u64 (m / 2 ^ j) ∧ p = .int .i64 (1043 + (j : Int)) ∧ l = .int .u64 (lsI m j) ∧ r = .int .u64 (rsI m j) ∧ wr = w) (fun _ p _ _ _ => (1100 - intOf p).toNat)
  case atStart => exact ⟨0, by omega, (by simp), (by simp), rfl, rfl, rfl⟩
  case round =>
    obtain ⟨j, hj, rfl, rfl, rfl, rfl, rfl⟩ := hrel
    by_cases hlt : j < k
    · have g1 := FH.out j hlt
      have g2 : ¬ m / 2 ^ j < 9007199254740992 := by omega
      have ro := rs_succ m j
      have els := ls_succ m j
      have ehd := half_div m j
      have g3 : 0 ≤ m / 2 ^ j := by omega
      have g4 : IntKind.i64.wrap (1043 + (j : Int) + 1) = 1043 + (j : Int) + 1 := IntWalk.i64_in _ (by omega)
      have g5 : IntKind.u64.wrap ((m / 2 ^ j).tdiv 2) = m / 2 ^ (j + 1) := by rw [Int.tdiv_eq_ediv_of_nonneg g3, ← ehd]; exact IntWalk.u64_in _ (by have := Int.ediv_le_self (2 ^ j) m0; omega)
      go_wp2_with fail
      go_roundw
      case rel => exact ⟨j + 1, by omega, by first | rfl | rw [ehd], by simp; omega, by rw [els], by first | rfl | rw [ro], trivial⟩
      case measure => simp [intOf]; omega
    · obtain rfl : j = k := by omega
      have hup : rnd m (2 ^ j) = if lsI m j = 1 ∧ (rsI m j = 1 ∨ m / 2 ^ j % 2 = 1) then m / 2 ^ j + 1 else m / 2 ^ j := by
        cases j with
        | zero => rw [rnd_one]; simp [lsI]
        | succ i => exact rnd_bits m i
      have q0 : 0 ≤ m / 2 ^ j := Int.ediv_nonneg m0 (by have := pw_pos j; omega)
      have FK := Lib.hid (FA.out _ rfl)
      generalize lsI m j = l at *
      generalize rsI m j = r at *
      generalize m / 2 ^ j = q at *
      have qlt : ¬ (9007199254740992 : Int) ≤ q := by omega
      by_cases hu : l = 1 ∧ (r = 1 ∨ q % 2 = 1)
      · rw [if_pos hu] at hup
        rw [hup] at FK
        have i1 : IntKind.u64.wrap (q + 1) = q + 1 := IntWalk.u64_in _ (by omega)
        obtain ⟨rfl, hu2⟩ := hu
        by_cases he : q + 1 = 9007199254740992
        · obtain ⟨f1, f2, f3, f4, f5, f6, f7⟩ := FK.out.1 he
          have g4 : IntKind.i64.wrap (1043 + (j : Int) + 1) = 1043 + (j : Int) + 1 := IntWalk.i64_in _ (by omega)
          have HR2 : (1043 + (j : Int) + 1) * 4503599627370496 + 4503599627370496 - 4503599627370496 = R := by omega
          have hq3 : q = 9007199254740991 := by omega
          clear FK hup f1 f2 f3 f4 f5 f6 f7 he
          subst hq3
          have hr : r = 1 ∨ ¬ r = 1 := by omega
          rcases hr with rfl | hr
          · go_wp2_with fail
            refine wp_loop_rounds 1 ?_
            rw [rounds_succ]
            have i1 : IntKind.u64.wrap (1043 + (j : Int) + 1) = 1043 + (j : Int) + 1 := IntWalk.u64_in _ (by omega)
            have i2 : IntKind.u64.wrap ((1043 + (j : Int) + 1) * 4503599627370496) = (1043 + (j : Int) + 1) * 4503599627370496 := IntWalk.u64_in _ (by omega)
            have i3 : IntKind.u64.wrap ((1043 + (j : Int) + 1) * 4503599627370496 + 4503599627370496) = (1043 + (j : Int) + 1) * 4503599627370496 + 4503599627370496 := IntWalk.u64_in _ (by omega)
            have i4 : IntKind.u64.wrap ((1043 + (j : Int) + 1) * 4503599627370496 + 4503599627370496 - 4503599627370496) = R := by rw [← HR2]; exact IntWalk.u64_in _ (by omega)
            have i5 : IntKind.u64.wrap (R + 9223372036854775808) = R + 9223372036854775808 := by rw [← HR2]; exact IntWalk.u64_in _ (by omega)
            have HR3 := Lib.hid HR2
            clear HR2
            by_cases hs : a < 0
            · go_wp2_with fail
              go_ret
              exact ⟨congrArg (fun z => Ending.returned (Value.int .u64 z)) (by have := HR3.out; rw [← HW.out, if_pos hs] <;> omega), rfl⟩
            · go_wp2_with fail
              go_ret
              exact ⟨congrArg (fun z => Ending.returned (Value.int .u64 z)) (by have := HR3.out; rw [← HW.out, if_neg (by omega)] <;> omega), rfl⟩
          · go_wp2_with fail
            refine wp_loop_rounds 1 ?_
            rw [rounds_succ]
            have i1 : IntKind.u64.wrap (1043 + (j : Int) + 1) = 1043 + (j : Int) + 1 := IntWalk.u64_in _ (by omega)
            have i2 : IntKind.u64.wrap ((1043 + (j : Int) + 1) * 4503599627370496) = (1043 + (j : Int) + 1) * 4503599627370496 := IntWalk.u64_in _ (by omega)
            have i3 : IntKind.u64.wrap ((1043 + (j : Int) + 1) * 4503599627370496 + 4503599627370496) = (1043 + (j : Int) + 1) * 4503599627370496 + 4503599627370496 := IntWalk.u64_in _ (by omega)
            have i4 : IntKind.u64.wrap ((1043 + (j : Int) + 1) * 4503599627370496 + 4503599627370496 - 4503599627370496) = R := by rw [← HR2]; exact IntWalk.u64_in _ (by omega)
            have i5 : IntKind.u64.wrap (R + 9223372036854775808) = R + 9223372036854775808 := by rw [← HR2]; exact IntWalk.u64_in _ (by omega)
            have HR3 := Lib.hid HR2
            clear HR2
            by_cases hs : a < 0
            · go_wp2_with fail
              go_ret
              exact ⟨congrArg (fun z => Ending.returned (Value.int .u64 z)) (by have := HR3.out; rw [← HW.out, if_pos hs] <;> omega), rfl⟩
            · go_wp2_with fail
              go_ret
              exact ⟨congrArg (fun z => Ending.returned (Value.int .u64 z)) (by have := HR3.out; rw [← HW.out, if_neg (by omega)] <;> omega), rfl⟩
        · have HF := FK.out.2 he
          clear FK hup
          by_cases hr : r = 1
          · subst hr
            clear hu2
            obtain ⟨d, HF0⟩ := HF
            obtain ⟨f1, f2, f3, f4, f5, f6, f7⟩ := HF0
            go_wp2_with fail
            go_loopw [3, 4] (fun m p w9 => ∃ i : Nat, i ≤ d ∧ m = .int .u64 ((q + 1) * 2 ^ i) ∧ p = .int .i64 ((1043 + (j : Int)) - (i : Int)) ∧ w9 = wr) (fun _ p _ => (intOf p).toNat)
            case atStart => exact ⟨0, Nat.zero_le _, (by simp), (by simp), rfl⟩
            case round =>
              obtain ⟨i, hi, rfl, rfl, rfl⟩ := hrel
              by_cases hlt : i < d
              · have g1 := f4 i hlt
                have g2 : 0 ≤ (q + 1) * 2 ^ i := Int.mul_nonneg (by omega) (by have := pw_pos i; omega)
                have g3 : IntKind.u64.wrap (2 * ((q + 1) * 2 ^ i)) = (q + 1) * 2 ^ (i + 1) := by
                  rw [Int.pow_succ, ← Int.mul_assoc (q + 1), Int.mul_comm ((q + 1) * 2 ^ i) 2]
                  exact IntWalk.u64_in _ (by omega)
                have g4 : IntKind.i64.wrap ((1043 + (j : Int)) - (i : Int) - 1) = (1043 + (j : Int)) - (i : Int) - 1 := IntWalk.i64_in _ (by omega)
                clear f1 f2 f3 f4 f5
                go_wp2_with fail
                go_roundw
                case rel => exact ⟨i + 1, by omega, rfl, by simp; omega, trivial⟩
                case measure =>
                  simp [intOf]
                  omega
              · obtain rfl : i = d := by omega
                have g1 : ¬ (q + 1) * 2 ^ i < 4503599627370496 := by omega
                clear f1 f4
                generalize (q + 1) * 2 ^ i = x at *
                obtain ⟨P, hP⟩ : ∃ P, P = (1043 + (j : Int)) - (i : Int) := ⟨_, rfl⟩
                rw [← hP] at f5 f6 ⊢
                have hP2 : P ≤ 1200 := by omega
                have HR2 : P * 4503599627370496 + x - 4503599627370496 = R := by omega
                clear f5 hP
                have i1 : IntKind.u64.wrap (P) = P := IntWalk.u64_in _ (by omega)
                have i2 : IntKind.u64.wrap ((P) * 4503599627370496) = (P) * 4503599627370496 := IntWalk.u64_in _ (by omega)
                have i3 : IntKind.u64.wrap ((P) * 4503599627370496 + x) = (P) * 4503599627370496 + x := IntWalk.u64_in _ (by omega)
                have i4 : IntKind.u64.wrap ((P) * 4503599627370496 + x - 4503599627370496) = R := by rw [← HR2]; exact IntWalk.u64_in _ (by omega)
                have i5 : IntKind.u64.wrap (R + 9223372036854775808) = R + 9223372036854775808 := by rw [← HR2]; exact IntWalk.u64_in _ (by omega)
                have HR3 := Lib.hid HR2
                clear HR2
                by_cases hs : a < 0
                · go_wp2_with fail
                  go_ret
                  exact ⟨congrArg (fun z => Ending.returned (Value.int .u64 z)) (by have := HR3.out; rw [← HW.out, if_pos hs] <;> omega), rfl⟩
                · go_wp2_with fail
                  go_ret
                  exact ⟨congrArg (fun z => Ending.returned (Value.int .u64 z)) (by have := HR3.out; rw [← HW.out, if_neg (by omega)] <;> omega), rfl⟩
          · have hq2 : q % 2 = 1 := by omega
            clear hu2
            obtain ⟨d, HF0⟩ := HF
            obtain ⟨f1, f2, f3, f4, f5, f6, f7⟩ := HF0
            go_wp2_with fail
            go_loopw [3, 4] (fun m p w9 => ∃ i : Nat, i ≤ d ∧ m = .int .u64 ((q + 1) * 2 ^ i) ∧ p = .int .i64 ((1043 + (j : Int)) - (i : Int)) ∧ w9 = wr) (fun _ p _ => (intOf p).toNat)
            case atStart => exact ⟨0, Nat.zero_le _, (by simp), (by simp), rfl⟩
            case round =>
              obtain ⟨i, hi, rfl, rfl, rfl⟩ := hrel
              by_cases hlt : i < d
              · have g1 := f4 i hlt
                have g2 : 0 ≤ (q + 1) * 2 ^ i := Int.mul_nonneg (by omega) (by have := pw_pos i; omega)
                have g3 : IntKind.u64.wrap (2 * ((q + 1) * 2 ^ i)) = (q + 1) * 2 ^ (i + 1) := by
                  rw [Int.pow_succ, ← Int.mul_assoc (q + 1), Int.mul_comm ((q + 1) * 2 ^ i) 2]
                  exact IntWalk.u64_in _ (by omega)
                have g4 : IntKind.i64.wrap ((1043 + (j : Int)) - (i : Int) - 1) = (1043 + (j : Int)) - (i : Int) - 1 := IntWalk.i64_in _ (by omega)
                clear f1 f2 f3 f4 f5
                go_wp2_with fail
                go_roundw
                case rel => exact ⟨i + 1, by omega, rfl, by simp; omega, trivial⟩
                case measure =>
                  simp [intOf]
                  omega
              · obtain rfl : i = d := by omega
                have g1 : ¬ (q + 1) * 2 ^ i < 4503599627370496 := by omega
                clear f1 f4
                generalize (q + 1) * 2 ^ i = x at *
                obtain ⟨P, hP⟩ : ∃ P, P = (1043 + (j : Int)) - (i : Int) := ⟨_, rfl⟩
                rw [← hP] at f5 f6 ⊢
                have hP2 : P ≤ 1200 := by omega
                have HR2 : P * 4503599627370496 + x - 4503599627370496 = R := by omega
                clear f5 hP
                have i1 : IntKind.u64.wrap (P) = P := IntWalk.u64_in _ (by omega)
                have i2 : IntKind.u64.wrap ((P) * 4503599627370496) = (P) * 4503599627370496 := IntWalk.u64_in _ (by omega)
                have i3 : IntKind.u64.wrap ((P) * 4503599627370496 + x) = (P) * 4503599627370496 + x := IntWalk.u64_in _ (by omega)
                have i4 : IntKind.u64.wrap ((P) * 4503599627370496 + x - 4503599627370496) = R := by rw [← HR2]; exact IntWalk.u64_in _ (by omega)
                have i5 : IntKind.u64.wrap (R + 9223372036854775808) = R + 9223372036854775808 := by rw [← HR2]; exact IntWalk.u64_in _ (by omega)
                have HR3 := Lib.hid HR2
                clear HR2
                by_cases hs : a < 0
                · go_wp2_with fail
                  go_ret
                  exact ⟨congrArg (fun z => Ending.returned (Value.int .u64 z)) (by have := HR3.out; rw [← HW.out, if_pos hs] <;> omega), rfl⟩
                · go_wp2_with fail
                  go_ret
                  exact ⟨congrArg (fun z => Ending.returned (Value.int .u64 z)) (by have := HR3.out; rw [← HW.out, if_neg (by omega)] <;> omega), rfl⟩
      · rw [if_neg hu] at hup
        rw [hup] at FK
        have he : ¬ q = 9007199254740992 := by omega
        have HF := FK.out.2 he
        clear FK hup
        by_cases hl : l = 1
        · subst hl
          have hr : ¬ r = 1 := fun e => hu ⟨rfl, .inl e⟩
          have hq2 : ¬ q % 2 = 1 := fun e => hu ⟨rfl, .inr e⟩
          have t1 : (r == 1) = false := by simpa using hr
          have t2 : (q % 2 == 1) = false := by simpa using hq2
          clear hu hr hq2
          obtain ⟨d, HF0⟩ := HF
          obtain ⟨f1, f2, f3, f4, f5, f6, f7⟩ := HF0
          go_wp2_with fail
          go_loopw [3, 4] (fun m p w9 => ∃ i : Nat, i ≤ d ∧ m = .int .u64 (q * 2 ^ i) ∧ p = .int .i64 ((1043 + (j : Int)) - (i : Int)) ∧ w9 = wr) (fun _ p _ => (intOf p).toNat)
          case atStart => exact ⟨0, Nat.zero_le _, (by simp), (by simp), rfl⟩
          case round =>
            obtain ⟨i, hi, rfl, rfl, rfl⟩ := hrel
            by_cases hlt : i < d
            · have g1 := f4 i hlt
              have g2 : 0 ≤ q * 2 ^ i := Int.mul_nonneg (by omega) (by have := pw_pos i; omega)
              have g3 : IntKind.u64.wrap (2 * (q * 2 ^ i)) = q * 2 ^ (i + 1) := by
                rw [Int.pow_succ, ← Int.mul_assoc q, Int.mul_comm (q * 2 ^ i) 2]
                exact IntWalk.u64_in _ (by omega)
              have g4 : IntKind.i64.wrap ((1043 + (j : Int)) - (i : Int) - 1) = (1043 + (j : Int)) - (i : Int) - 1 := IntWalk.i64_in _ (by omega)
              clear f1 f2 f3 f4 f5
              go_wp2_with fail
              go_roundw
              case rel => exact ⟨i + 1, by omega, rfl, by simp; omega, trivial⟩
              case measure =>
                simp [intOf]
                omega
            · obtain rfl : i = d := by omega
              have g1 : ¬ q * 2 ^ i < 4503599627370496 := by omega
              clear f1 f4
              generalize q * 2 ^ i = x at *
              obtain ⟨P, hP⟩ : ∃ P, P = (1043 + (j : Int)) - (i : Int) := ⟨_, rfl⟩
              rw [← hP] at f5 f6 ⊢
              have hP2 : P ≤ 1200 := by omega
              have HR2 : P * 4503599627370496 + x - 4503599627370496 = R := by omega
              clear f5 hP
              have i1 : IntKind.u64.wrap (P) = P := IntWalk.u64_in _ (by omega)
              have i2 : IntKind.u64.wrap ((P) * 4503599627370496) = (P) * 4503599627370496 := IntWalk.u64_in _ (by omega)
              have i3 : IntKind.u64.wrap ((P) * 4503599627370496 + x) = (P) * 4503599627370496 + x := IntWalk.u64_in _ (by omega)
              have i4 : IntKind.u64.wrap ((P) * 4503599627370496 + x - 4503599627370496) = R := by rw [← HR2]; exact IntWalk.u64_in _ (by omega)
              have i5 : IntKind.u64.wrap (R + 9223372036854775808) = R + 9223372036854775808 := by rw [← HR2]; exact IntWalk.u64_in _ (by omega)
              have HR3 := Lib.hid HR2
              clear HR2
              by_cases hs : a < 0
              · go_wp2_with fail
                go_ret
                exact ⟨congrArg (fun z => Ending.returned (Value.int .u64 z)) (by have := HR3.out; rw [← HW.out, if_pos hs] <;> omega), rfl⟩
              · go_wp2_with fail
                go_ret
                exact ⟨congrArg (fun z => Ending.returned (Value.int .u64 z)) (by have := HR3.out; rw [← HW.out, if_neg (by omega)] <;> omega), rfl⟩
        · clear hu
          obtain ⟨d, HF0⟩ := HF
          obtain ⟨f1, f2, f3, f4, f5, f6, f7⟩ := HF0
          go_wp2_with fail
          go_loopw [3, 4] (fun m p w9 => ∃ i : Nat, i ≤ d ∧ m = .int .u64 (q * 2 ^ i) ∧ p = .int .i64 ((1043 + (j : Int)) - (i : Int)) ∧ w9 = wr) (fun _ p _ => (intOf p).toNat)
          case atStart => exact ⟨0, Nat.zero_le _, (by simp), (by simp), rfl⟩
          case round =>
            obtain ⟨i, hi, rfl, rfl, rfl⟩ := hrel
            by_cases hlt : i < d
            · have g1 := f4 i hlt
              have g2 : 0 ≤ q * 2 ^ i := Int.mul_nonneg (by omega) (by have := pw_pos i; omega)
              have g3 : IntKind.u64.wrap (2 * (q * 2 ^ i)) = q * 2 ^ (i + 1) := by
                rw [Int.pow_succ, ← Int.mul_assoc q, Int.mul_comm (q * 2 ^ i) 2]
                exact IntWalk.u64_in _ (by omega)
              have g4 : IntKind.i64.wrap ((1043 + (j : Int)) - (i : Int) - 1) = (1043 + (j : Int)) - (i : Int) - 1 := IntWalk.i64_in _ (by omega)
              clear f1 f2 f3 f4 f5
              go_wp2_with fail
              go_roundw
              case rel => exact ⟨i + 1, by omega, rfl, by simp; omega, trivial⟩
              case measure =>
                simp [intOf]
                omega
            · obtain rfl : i = d := by omega
              have g1 : ¬ q * 2 ^ i < 4503599627370496 := by omega
              clear f1 f4
              generalize q * 2 ^ i = x at *
              obtain ⟨P, hP⟩ : ∃ P, P = (1043 + (j : Int)) - (i : Int) := ⟨_, rfl⟩
              rw [← hP] at f5 f6 ⊢
              have hP2 : P ≤ 1200 := by omega
              have HR2 : P * 4503599627370496 + x - 4503599627370496 = R := by omega
              clear f5 hP
              have i1 : IntKind.u64.wrap (P) = P := IntWalk.u64_in _ (by omega)
              have i2 : IntKind.u64.wrap ((P) * 4503599627370496) = (P) * 4503599627370496 := IntWalk.u64_in _ (by omega)
              have i3 : IntKind.u64.wrap ((P) * 4503599627370496 + x) = (P) * 4503599627370496 + x := IntWalk.u64_in _ (by omega)
              have i4 : IntKind.u64.wrap ((P) * 4503599627370496 + x - 4503599627370496) = R := by rw [← HR2]; exact IntWalk.u64_in _ (by omega)
              have i5 : IntKind.u64.wrap (R + 9223372036854775808) = R + 9223372036854775808 := by rw [← HR2]; exact IntWalk.u64_in _ (by omega)
              have HR3 := Lib.hid HR2
              clear HR2
              by_cases hs : a < 0
              · go_wp2_with fail
                go_ret
                exact ⟨congrArg (fun z => Ending.returned (Value.int .u64 z)) (by have := HR3.out; rw [← HW.out, if_pos hs] <;> omega), rfl⟩
              · go_wp2_with fail
                go_ret
                exact ⟨congrArg (fun z => Ending.returned (Value.int .u64 z)) (by have := HR3.out; rw [← HW.out, if_neg (by omega)] <;> omega), rfl⟩
end Go.Proofs.Ytjhepjmggenadaa
