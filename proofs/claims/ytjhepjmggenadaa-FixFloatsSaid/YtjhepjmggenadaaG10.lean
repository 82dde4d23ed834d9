import Derived.Test.YtjhepjmggenadaaFL
/- The reference's FromFloat, walked. -/
namespace Go.Proofs.Ytjhepjmggenadaa
open Go.RowKit
attribute [local go_sem ↓] Go.wp_at_zero Go.wp_at_succ

theorem rfrom_nan (b : Nat) (hb0 : b < 18446744073709551616) (h : nanB b = true) (w : World) :
    Calls Try.prog 23 #[.int .u64 b] w fun e w' => e = .returned (.tuple #[.int .i64 0, .bool false, .bool false]) ∧ Below w.heap.size w w' := by
  have h1 : (b : Int) / 4503599627370496 % 2048 = 2047 ∧ (b : Int) % 4503599627370496 ≠ 0 := by unfold nanB at h; simp at h; omega
  obtain ⟨h1, h2⟩ := h1
  have h3 : (0 : Int) ≤ b := by omega
  have h4 : (b : Int) < 18446744073709551616 := by omega
  clear h hb0
  generalize (b : Int) = c at *
  go_enter Try.func23, Try.ntmps23
  go_wp2
  exact bodyPost_ret (v := .tuple #[.int .i64 0, .bool false, .bool false]) (by simp [*, results, Try.results23, go_sem]) rfl ⟨rfl, Below.refl _ _⟩
theorem rfrom_inf (w : World) :
    Calls Try.prog 23 #[.int .u64 9218868437227405312] w fun e w' => e = .returned (.tuple #[.int .i64 9223372036854775807, .bool true, .bool true]) ∧ Below w.heap.size w w' := by
  go_enter Try.func23, Try.ntmps23
  go_wp2
  exact bodyPost_ret (v := .tuple #[.int .i64 9223372036854775807, .bool true, .bool true]) (by simp [results, Try.results23, go_sem]) rfl ⟨rfl, Below.refl _ _⟩
theorem rfrom_ninf (w : World) :
    Calls Try.prog 23 #[.int .u64 18442240474082181120] w fun e w' => e = .returned (.tuple #[.int .i64 (-9223372036854775808), .bool true, .bool true]) ∧ Below w.heap.size w w' := by
  go_enter Try.func23, Try.ntmps23
  go_wp2
  exact bodyPost_ret (v := .tuple #[.int .i64 (-9223372036854775808), .bool true, .bool true]) (by simp [results, Try.results23, go_sem]) rfl ⟨rfl, Below.refl _ _⟩
end Go.Proofs.Ytjhepjmggenadaa
