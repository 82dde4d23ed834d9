import Derived.Test.YtjhepjmggenadaaF2
/- FromFloat at one half below 0. -/
namespace Go.Proofs.Ytjhepjmggenadaa
open Go.RowKit
attribute [local go_sem ↓] Go.wp_at_zero Go.wp_at_succ

theorem nan_half (w : World) : Calls Try.prog 57 #[.float .f64 13826050856027422720] w fun e w' => e = .returned (.bool false) ∧ Below w.heap.size w w' := by
  have h1 : (FloatKind.f64.format.order 13826050856027422720 13826050856027422720 != some Ordering.eq) = false := by decide
  go_enter Try.func57, Try.ntmps57
  go_wp2
  go_ret
  exact ⟨rfl, (by repeat (first | (with_reducible exact Below.refl _ _) | (with_reducible assumption) | (with_reducible refine Below.drew ?_) | (with_reducible refine Below.alloc ?_ ?_ _) | (with_reducible refine Below.setCell ?_ ?_ _) | (with_reducible refine Below.trans ?_ (Below.mono hb ?_)) | (with_reducible refine Below.trans ?_ (Below.mono hb1 ?_)) | (with_reducible refine Below.trans ?_ (Below.mono hb2 ?_)) | (with_reducible refine Below.trans ?_ (Below.mono hb3 ?_)) | (with_reducible refine Below.trans ?_ (Below.mono hb4 ?_)) | (with_reducible refine Below.trans ?_ (Below.mono hb5 ?_)) | (with_reducible refine Below.trans ?_ (Below.mono hb6 ?_)) | (with_reducible refine Below.trans ?_ (Below.mono hb7 ?_)) | (with_reducible refine Below.trans ?_ (Below.mono hb8 ?_)) | (with_reducible refine Below.trans ?_ (Below.mono hb9 ?_)) | (focus (first | omega | (simp; done) | (simp; omega))) | exact hB))⟩
theorem inf_half (w : World) : Calls Try.prog 58 #[.float .f64 13826050856027422720, .int .i64 1] w fun e w' => e = .returned (.bool false) ∧ Below w.heap.size w w' := by
  have h1 : (FloatKind.f64.format.order 13826050856027422720 9218868437227405311 == some Ordering.gt) = false := by decide
  go_enter Try.func58, Try.ntmps58
  go_wp2
  go_ret
  exact ⟨rfl, (by repeat (first | (with_reducible exact Below.refl _ _) | (with_reducible assumption) | (with_reducible refine Below.drew ?_) | (with_reducible refine Below.alloc ?_ ?_ _) | (with_reducible refine Below.setCell ?_ ?_ _) | (with_reducible refine Below.trans ?_ (Below.mono hb ?_)) | (with_reducible refine Below.trans ?_ (Below.mono hb1 ?_)) | (with_reducible refine Below.trans ?_ (Below.mono hb2 ?_)) | (with_reducible refine Below.trans ?_ (Below.mono hb3 ?_)) | (with_reducible refine Below.trans ?_ (Below.mono hb4 ?_)) | (with_reducible refine Below.trans ?_ (Below.mono hb5 ?_)) | (with_reducible refine Below.trans ?_ (Below.mono hb6 ?_)) | (with_reducible refine Below.trans ?_ (Below.mono hb7 ?_)) | (with_reducible refine Below.trans ?_ (Below.mono hb8 ?_)) | (with_reducible refine Below.trans ?_ (Below.mono hb9 ?_)) | (focus (first | omega | (simp; done) | (simp; omega))) | exact hB))⟩
theorem neg_half (w : World) : (Op.unary UnOp.neg (.float .f64 13826050856027422720)).run Try.prog w = .ok (.float .f64 4602678819172646912) w := by kernel_rfl
theorem ninf_half (w : World) : Calls Try.prog 58 #[.float .f64 13826050856027422720, .int .i64 (-1)] w fun e w' => e = .returned (.bool false) ∧ Below w.heap.size w w' := by
  have h1 : (FloatKind.f64.format.order 4602678819172646912 9218868437227405311 == some Ordering.gt) = false := by decide
  have h2 := neg_half
  go_enter Try.func58, Try.ntmps58
  go_wp2
  go_ret
  exact ⟨rfl, (by repeat (first | (with_reducible exact Below.refl _ _) | (with_reducible assumption) | (with_reducible refine Below.drew ?_) | (with_reducible refine Below.alloc ?_ ?_ _) | (with_reducible refine Below.setCell ?_ ?_ _) | (with_reducible refine Below.trans ?_ (Below.mono hb ?_)) | (with_reducible refine Below.trans ?_ (Below.mono hb1 ?_)) | (with_reducible refine Below.trans ?_ (Below.mono hb2 ?_)) | (with_reducible refine Below.trans ?_ (Below.mono hb3 ?_)) | (with_reducible refine Below.trans ?_ (Below.mono hb4 ?_)) | (with_reducible refine Below.trans ?_ (Below.mono hb5 ?_)) | (with_reducible refine Below.trans ?_ (Below.mono hb6 ?_)) | (with_reducible refine Below.trans ?_ (Below.mono hb7 ?_)) | (with_reducible refine Below.trans ?_ (Below.mono hb8 ?_)) | (with_reducible refine Below.trans ?_ (Below.mono hb9 ?_)) | (focus (first | omega | (simp; done) | (simp; omega))) | exact hB))⟩
theorem fbits (b : Nat) (w : World) : (callFunc 30 #[.float .f64 b]).run Try.prog w = .ok (.value (.int .u64 b)) w := by
  rw [run_callFunc_extern Try.func30 (by kernel_rfl) (by kernel_rfl) (by kernel_rfl) (e := Extern.MathFloatBits.float64bits) (by kernel_rfl)]
  rfl
theorem mask52 (b : Nat) (hb : b < 18446744073709551616) : bits .and .u64 (b : Int) 4503599627370495 = ((b % 4503599627370496 : Nat) : Int) := by
  have h := bits_and_u64_nat b 4503599627370495 hb (by omega)
  have e : b &&& 4503599627370495 = b % 4503599627370496 := Nat.and_two_pow_sub_one_eq_mod b 52
  rw [e] at h
  exact h
theorem mask11 (b : Nat) (hb : b < 18446744073709551616) : bits .and .u64 (b : Int) 2047 = ((b % 2048 : Nat) : Int) := by
  have h := bits_and_u64_nat b 2047 hb (by omega)
  have e : b &&& 2047 = b % 2048 := Nat.and_two_pow_sub_one_eq_mod b 11
  rw [e] at h
  exact h
theorem or52 (m : Nat) (hm : m < 4503599627370496) : bits .or .i64 (m : Int) 4503599627370496 = (m : Int) + 4503599627370496 := by
  have e : m ||| 4503599627370496 = m + 4503599627370496 := by
    have h2 := Nat.two_pow_add_eq_or_of_lt (i := 52) (show m < 2 ^ 52 by omega) 1
    rw [Nat.or_comm, show (4503599627370496 : Nat) = 2 ^ 52 * 1 by decide, ← h2]; omega
  have h1 : (BitVec.ofInt 64 (m : Int)).toNat = m := by
    rw [BitVec.ofInt_natCast, BitVec.toNat_ofNat]; exact Nat.mod_eq_of_lt (by omega)
  have h2 : (BitVec.ofInt 64 (4503599627370496 : Int)).toNat = 4503599627370496 := by decide
  show IntKind.i64.wrap ((BitVec.ofInt 64 (m : Int) ||| BitVec.ofInt 64 (4503599627370496 : Int)).toNat : Int) = _
  rw [BitVec.toNat_or, h1, h2, e, IntWalk.i64_in _ (by omega)]
  omega
/-- What apart makes of a float64's bits. -/
def apW (b : Nat) : Int := if b / 4503599627370496 % 2048 = 0 then (b % 4503599627370496 : Nat) else (b % 4503599627370496 : Nat) + 4503599627370496
def apP (b : Nat) : Int := if b / 4503599627370496 % 2048 = 0 then -1074 else (b / 4503599627370496 % 2048 : Nat) - 1075
def apS (b : Nat) : Bool := (((b / 9223372036854775808 : Nat) : Int) == 1)
set_option maxHeartbeats 1000000 in
theorem apart_any (b : Nat) (hb : b < 18446744073709551616) (w : World) : Calls Try.prog 59 #[.float .f64 b] w fun e w' => e = .returned (.agg #[.bool (apS b), .int .i64 (apW b), .int .i64 (apP b)]) ∧ Below w.heap.size w w' := by
  have h1 := fbits b
  have h2 := mask52 b hb
  have h3 := mask11 (b / 4503599627370496) (by omega)
  have h4 := or52 (b % 4503599627370496) (by omega)
  have h5 : (b : Int) / 4503599627370496 = ((b / 4503599627370496 : Nat) : Int) := by omega
  have h6 : (b : Int) / 9223372036854775808 = ((b / 9223372036854775808 : Nat) : Int) := by omega
  have l1 : b % 4503599627370496 < 4503599627370496 := by omega
  have l2 : b / 4503599627370496 % 2048 < 2048 := by omega
  unfold apS apW apP
  obtain ⟨m, em⟩ : ∃ m, b % 4503599627370496 = m := ⟨_, rfl⟩
  obtain ⟨e, ee⟩ : ∃ e, b / 4503599627370496 = e := ⟨_, rfl⟩
  obtain ⟨s, es⟩ : ∃ s, b / 9223372036854775808 = s := ⟨_, rfl⟩
  rw [em] at h2 h4 l1 ⊢
  rw [ee] at h3 h5 l2 ⊢
  rw [es] at h6 ⊢
  obtain ⟨p, ep⟩ : ∃ p, e % 2048 = p := ⟨_, rfl⟩
  rw [ep] at h3 l2 ⊢
  clear em ee es ep
  by_cases hp : p = 0
  · subst hp
    go_enter Try.func59, Try.ntmps59
    go_wp2
    exact bodyPost_ret (v := .agg #[.bool (((s : Int)) == 1), .int .i64 m, .int .i64 (-1074)]) (by simp [results, Try.results59, go_sem]) rfl ⟨rfl, (by repeat (first | (with_reducible exact Below.refl _ _) | (with_reducible assumption) | (with_reducible refine Below.drew ?_) | (with_reducible refine Below.alloc ?_ ?_ _) | (with_reducible refine Below.setCell ?_ ?_ _) | (with_reducible refine Below.trans ?_ (Below.mono hb ?_)) | (with_reducible refine Below.trans ?_ (Below.mono hb1 ?_)) | (with_reducible refine Below.trans ?_ (Below.mono hb2 ?_)) | (with_reducible refine Below.trans ?_ (Below.mono hb3 ?_)) | (with_reducible refine Below.trans ?_ (Below.mono hb4 ?_)) | (with_reducible refine Below.trans ?_ (Below.mono hb5 ?_)) | (with_reducible refine Below.trans ?_ (Below.mono hb6 ?_)) | (with_reducible refine Below.trans ?_ (Below.mono hb7 ?_)) | (with_reducible refine Below.trans ?_ (Below.mono hb8 ?_)) | (with_reducible refine Below.trans ?_ (Below.mono hb9 ?_)) | (focus (first | omega | (simp; done) | (simp; omega))) | exact hB))⟩
  · have hp2 : ((p : Int) == 0) = false := by simp; omega
    rw [if_neg hp, if_neg hp]
    clear hp
    go_enter Try.func59, Try.ntmps59
    go_wp2
    exact bodyPost_ret (v := .agg #[.bool (((s : Int)) == 1), .int .i64 ((m : Int) + 4503599627370496), .int .i64 ((p : Int) - 1075)]) (by simp [results, Try.results59, go_sem]) rfl ⟨rfl, (by repeat (first | (with_reducible exact Below.refl _ _) | (with_reducible assumption) | (with_reducible refine Below.drew ?_) | (with_reducible refine Below.alloc ?_ ?_ _) | (with_reducible refine Below.setCell ?_ ?_ _) | (with_reducible refine Below.trans ?_ (Below.mono hb ?_)) | (with_reducible refine Below.trans ?_ (Below.mono hb1 ?_)) | (with_reducible refine Below.trans ?_ (Below.mono hb2 ?_)) | (with_reducible refine Below.trans ?_ (Below.mono hb3 ?_)) | (with_reducible refine Below.trans ?_ (Below.mono hb4 ?_)) | (with_reducible refine Below.trans ?_ (Below.mono hb5 ?_)) | (with_reducible refine Below.trans ?_ (Below.mono hb6 ?_)) | (with_reducible refine Below.trans ?_ (Below.mono hb7 ?_)) | (with_reducible refine Below.trans ?_ (Below.mono hb8 ?_)) | (with_reducible refine Below.trans ?_ (Below.mono hb9 ?_)) | (focus (first | omega | (simp; done) | (simp; omega))) | exact hB))⟩
end Go.Proofs.Ytjhepjmggenadaa
