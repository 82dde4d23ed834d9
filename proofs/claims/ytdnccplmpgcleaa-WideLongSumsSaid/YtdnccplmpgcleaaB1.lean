import Derived.Test.YtdnccplmpgcleaaB0
import Derived.Test.YtdnccplmpgcleaaDiv
/- The reference's numbers as bits: Int, Wider, Shl, Shr. -/
namespace Go.Proofs.Ytdnccplmpgcleaa
open Go.RowKit

theorem fin_own {w w' : World} {v : Value} {n : Nat} {y : Int} (hown : w'.ownsRow w.heap.size 3 1 v n (bitL n y)) (hB : Below w.heap.size w w') (hn : 0 < n) : Own w w' (.returned v) n y := by
  obtain ⟨g, c, rfl, h1, h2, h3, h4⟩ := row_bt hown hn
  exact ⟨g, c, rfl, h1, h2, h3, h4, hB⟩
theorem next_row {w w' : World} {v : Value} {n : Nat} {y b : Int} (hown : w'.ownsRow w.heap.size 3 1 v (n + 1) (bitL n y ++ [.int .i64 b])) (hb : b = bitI n y) :
    w'.ownsRow w.heap.size 3 1 v (n + 1) (bitL (n + 1) y) := by rw [bitL_succ, ← hb]; exact hown

theorem u64_bit (x : Int) (k : Nat) (hk : k < 64) : wrap64 (bits .and .u64 (IntKind.u64.wrap x / 2 ^ k) 1) = bitI k x := by
  have h0 : U64 (IntKind.u64.wrap x) := u64_wrap x
  have hp := p2pos k
  have h1 : U64 (IntKind.u64.wrap x / 2 ^ k) := by
    unfold U64 at *
    have := Int.ediv_le_self (2 ^ k) h0.1
    exact ⟨Int.ediv_nonneg h0.1 (by omega), by omega⟩
  rw [and_one _ h1]
  have e : IntKind.u64.wrap x / 2 ^ k % 2 = bitI k (IntKind.u64.wrap x) := rfl
  rw [e, u64w, show (18446744073709551616 : Int) = 2 ^ 64 by decide, bit_mod k 64 x hk]
  have := bitI_01 k x
  unfold wrap64; omega
theorem in64_B {x : Int} (h : In64 x) : InB 64 x := by unfold In64 at h; unfold InB; omega

set_option maxHeartbeats 1000000 in
theorem rint_any (x : Int) (hx : In64 x) (n : Nat) (hn0 : 0 < n) (hn : n < 1000) (w : World) :
    Calls Try.prog 22 #[.int .i64 x, .int .i64 n] w fun e w' => Own w w' e n x := by
  go_enter Try.func22, Try.ntmps22
  go_wp2
  go_loopw [5, 6] (fun v i wr => ∃ k : Nat, k ≤ n ∧ i = .int .i64 k ∧ wr.ownsRow w.heap.size 3 1 v k (bitL k x) ∧ Below w.heap.size w wr) (fun _ i _ => n - (intOf i).toNat)
  case atStart => exact ⟨0, Nat.zero_le _, rfl, World.ownsRow_nil _ _ _ _, (by repeat (first | exact Below.refl _ _ | refine Below.drew ?_ | refine Below.alloc ?_ (by first | omega | (simp; done) | (simp; omega)) _ | refine Below.setCell ?_ (by first | omega | (simp; done) | (simp; omega)) _ | exact BC | exact BW | exact hB | refine Below.trans ?_ (Below.mono hb1 (by first | omega | (simp; done) | (simp; omega))) | refine Below.trans ?_ (Below.mono hb2 (by first | omega | (simp; done) | (simp; omega))) | refine Below.trans ?_ (Below.mono hb3 (by first | omega | (simp; done) | (simp; omega))) | refine Below.trans ?_ (Below.mono hb4 (by first | omega | (simp; done) | (simp; omega))) | refine Below.trans ?_ (Below.mono hb5 (by first | omega | (simp; done) | (simp; omega))) | refine Below.trans ?_ (Below.mono hb6 (by first | omega | (simp; done) | (simp; omega))) | refine Below.trans ?_ (Below.mono hb7 (by first | omega | (simp; done) | (simp; omega))) | refine Below.trans ?_ (Below.mono hb8 (by first | omega | (simp; done) | (simp; omega))) | refine Below.trans ?_ (Below.mono hb9 (by first | omega | (simp; done) | (simp; omega)))))⟩
  case round =>
    obtain ⟨k, hk, rfl, hown, hB⟩ := hrel
    have hk2 : k < 1000000 := by omega
    go_wp2_with ((at_builtin; refine app_int hB (Nat.le_refl _) hown hk2 rfl rfl rfl _ rfl rfl ?_))
    · intro v' w1 hown1 hB1
      have hlt : k < n := by omega
      replace hown1 := next_row hown1 (u64_bit x k (by omega))
      clear hown hB
      go_wp2
      go_roundw
      case rel => exact ⟨k + 1, by omega, by simp, hown1, hB1⟩
      case measure => simp [intOf]; omega
    · intro v' w1 hown1 hB1
      have hlt : k < n := by omega
      have h0 : x < 0 := by assumption
      replace hown1 := next_row hown1 (by rw [bit_sign (in64_B hx) (by omega), if_pos h0])
      clear hown hB
      go_wp2
      go_roundw
      case rel => exact ⟨k + 1, by omega, by simp, hown1, hB1⟩
      case measure => simp [intOf]; omega
    · intro v' w1 hown1 hB1
      have hlt : k < n := by omega
      have h0 : 0 ≤ x := by omega
      replace hown1 := next_row hown1 (by rw [bit_sign (in64_B hx) (by omega), if_neg (by omega)])
      clear hown hB
      go_wp2
      go_roundw
      case rel => exact ⟨k + 1, by omega, by simp, hown1, hB1⟩
      case measure => simp [intOf]; omega
    · skip
      have hkl : k = n := by omega
      subst hkl
      go_ret
      exact fin_own hown hB (by omega)
theorem bit_top {n k : Nat} {x : Int} (h : InB n x) (hk : n - 1 ≤ k) : bitI (n - 1) x = bitI k x := by rw [bit_sign h (Nat.le_refl _), bit_sign h hk]
set_option maxHeartbeats 1000000 in
theorem rwider_any (g c m : Nat) (x : Int) (n : Nat) (hx : InB m x) (hm0 : 0 < m) (hm : m < 1000) (hn0 : 0 < n) (hn : n < 1000) (w : World) (hb : Bt w g m x) :
    Calls Try.prog 46 #[.slice (some ⟨g, 0, none⟩) m c, .int .i64 n] w fun e w' => Own w w' e n x := by
  go_enter Try.func46, Try.ntmps46
  go_wp2
  go_loopw [5, 6] (fun v i wr => ∃ k : Nat, k ≤ n ∧ i = .int .i64 k ∧ wr.ownsRow w.heap.size 3 1 v k (bitL k x) ∧ Below w.heap.size w wr) (fun _ i _ => n - (intOf i).toNat)
  case atStart => exact ⟨0, Nat.zero_le _, rfl, World.ownsRow_nil _ _ _ _, (by repeat (first | exact Below.refl _ _ | refine Below.drew ?_ | refine Below.alloc ?_ (by first | omega | (simp; done) | (simp; omega)) _ | refine Below.setCell ?_ (by first | omega | (simp; done) | (simp; omega)) _ | exact BC | exact BW | exact hB | refine Below.trans ?_ (Below.mono hb1 (by first | omega | (simp; done) | (simp; omega))) | refine Below.trans ?_ (Below.mono hb2 (by first | omega | (simp; done) | (simp; omega))) | refine Below.trans ?_ (Below.mono hb3 (by first | omega | (simp; done) | (simp; omega))) | refine Below.trans ?_ (Below.mono hb4 (by first | omega | (simp; done) | (simp; omega))) | refine Below.trans ?_ (Below.mono hb5 (by first | omega | (simp; done) | (simp; omega))) | refine Below.trans ?_ (Below.mono hb6 (by first | omega | (simp; done) | (simp; omega))) | refine Below.trans ?_ (Below.mono hb7 (by first | omega | (simp; done) | (simp; omega))) | refine Below.trans ?_ (Below.mono hb8 (by first | omega | (simp; done) | (simp; omega))) | refine Below.trans ?_ (Below.mono hb9 (by first | omega | (simp; done) | (simp; omega)))))⟩
  case round =>
    obtain ⟨k, hk, rfl, hown, hB⟩ := hrel
    have hk2 : k < 1000000 := by omega
    obtain ⟨hg, hcx⟩ := hb.call hB
    have hc1 : k < m → wr.cell? ⟨g, k, none⟩ = some (.int .i64 (bitI k x)) := hcx k
    have hc2 : wr.cell? ⟨g, m - 1, none⟩ = some (.int .i64 (bitI (m - 1) x)) := hcx _ (by omega)
    clear hcx hb
    go_wp2_with ((at_builtin; refine app_int hB (Nat.le_refl _) hown hk2 rfl rfl rfl _ rfl rfl ?_))
    · intro v' w1 hown1 hB1
      have hlt : k < n := by omega
      replace hown1 := next_row hown1 (rfl)
      clear hown hB
      go_wp2
      go_roundw
      case rel => exact ⟨k + 1, by omega, by simp, hown1, hB1⟩
      case measure => simp [intOf]; omega
    · intro v' w1 hown1 hB1
      have hlt : k < n := by omega
      replace hown1 := next_row hown1 (bit_top hx (by omega))
      clear hown hB
      go_wp2
      go_roundw
      case rel => exact ⟨k + 1, by omega, by simp, hown1, hB1⟩
      case measure => simp [intOf]; omega
    · skip
      have hkl : k = n := by omega
      subst hkl
      go_ret
      exact fin_own hown hB (by omega)
set_option maxHeartbeats 1000000 in
theorem rshl_any (g c m : Nat) (x : Int) (n : Nat) (hm : m < 1000) (hn0 : 0 < n) (hn : n < 1000) (w : World) (hb : Bt w g n x) :
    Calls Try.prog 34 #[.slice (some ⟨g, 0, none⟩) n c, .int .i64 m] w fun e w' => Own w w' e n (x * 2 ^ m) := by
  go_enter Try.func34, Try.ntmps34
  go_wp2
  go_loopw [5, 6] (fun v i wr => ∃ k : Nat, k ≤ n ∧ i = .int .i64 k ∧ wr.ownsRow w.heap.size 3 1 v k (bitL k (x * 2 ^ m)) ∧ Below w.heap.size w wr) (fun _ i _ => n - (intOf i).toNat)
  case atStart => exact ⟨0, Nat.zero_le _, rfl, World.ownsRow_nil _ _ _ _, (by repeat (first | exact Below.refl _ _ | refine Below.drew ?_ | refine Below.alloc ?_ (by first | omega | (simp; done) | (simp; omega)) _ | refine Below.setCell ?_ (by first | omega | (simp; done) | (simp; omega)) _ | exact BC | exact BW | exact hB | refine Below.trans ?_ (Below.mono hb1 (by first | omega | (simp; done) | (simp; omega))) | refine Below.trans ?_ (Below.mono hb2 (by first | omega | (simp; done) | (simp; omega))) | refine Below.trans ?_ (Below.mono hb3 (by first | omega | (simp; done) | (simp; omega))) | refine Below.trans ?_ (Below.mono hb4 (by first | omega | (simp; done) | (simp; omega))) | refine Below.trans ?_ (Below.mono hb5 (by first | omega | (simp; done) | (simp; omega))) | refine Below.trans ?_ (Below.mono hb6 (by first | omega | (simp; done) | (simp; omega))) | refine Below.trans ?_ (Below.mono hb7 (by first | omega | (simp; done) | (simp; omega))) | refine Below.trans ?_ (Below.mono hb8 (by first | omega | (simp; done) | (simp; omega))) | refine Below.trans ?_ (Below.mono hb9 (by first | omega | (simp; done) | (simp; omega)))))⟩
  case round =>
    obtain ⟨k, hk, rfl, hown, hB⟩ := hrel
    have hk2 : k < 1000000 := by omega
    obtain ⟨hg, hcx⟩ := hb.call hB
    have hc1 : k < n → wr.cell? ⟨g, k - m, none⟩ = some (.int .i64 (bitI (k - m) x)) := fun h => hcx _ (by omega)
    clear hcx hb
    go_wp2_with ((at_builtin; refine app_int hB (Nat.le_refl _) hown hk2 rfl rfl rfl _ rfl rfl ?_))
    · intro v' w1 hown1 hB1
      have hlt : k < n := by omega
      replace hown1 := next_row hown1 (by rw [bit_shl, if_pos (by omega)])
      clear hown hB
      go_wp2
      go_roundw
      case rel => exact ⟨k + 1, by omega, by simp, hown1, hB1⟩
      case measure => simp [intOf]; omega
    · intro v' w1 hown1 hB1
      have hlt : k < n := by omega
      replace hown1 := next_row hown1 (by rw [bit_shl, if_neg (by omega)])
      clear hown hB
      go_wp2
      go_roundw
      case rel => exact ⟨k + 1, by omega, by simp, hown1, hB1⟩
      case measure => simp [intOf]; omega
    · skip
      have hkl : k = n := by omega
      subst hkl
      go_ret
      exact fin_own hown hB (by omega)
set_option maxHeartbeats 1000000 in
theorem rshr_any (g c m : Nat) (x : Int) (n : Nat) (hx : InB n x) (hm : m < 1000) (hn0 : 0 < n) (hn : n < 1000) (w : World) (hb : Bt w g n x) :
    Calls Try.prog 35 #[.slice (some ⟨g, 0, none⟩) n c, .int .i64 m] w fun e w' => Own w w' e n (x / 2 ^ m) := by
  go_enter Try.func35, Try.ntmps35
  go_wp2
  go_loopw [5, 6] (fun v i wr => ∃ k : Nat, k ≤ n ∧ i = .int .i64 k ∧ wr.ownsRow w.heap.size 3 1 v k (bitL k (x / 2 ^ m)) ∧ Below w.heap.size w wr) (fun _ i _ => n - (intOf i).toNat)
  case atStart => exact ⟨0, Nat.zero_le _, rfl, World.ownsRow_nil _ _ _ _, (by repeat (first | exact Below.refl _ _ | refine Below.drew ?_ | refine Below.alloc ?_ (by first | omega | (simp; done) | (simp; omega)) _ | refine Below.setCell ?_ (by first | omega | (simp; done) | (simp; omega)) _ | exact BC | exact BW | exact hB | refine Below.trans ?_ (Below.mono hb1 (by first | omega | (simp; done) | (simp; omega))) | refine Below.trans ?_ (Below.mono hb2 (by first | omega | (simp; done) | (simp; omega))) | refine Below.trans ?_ (Below.mono hb3 (by first | omega | (simp; done) | (simp; omega))) | refine Below.trans ?_ (Below.mono hb4 (by first | omega | (simp; done) | (simp; omega))) | refine Below.trans ?_ (Below.mono hb5 (by first | omega | (simp; done) | (simp; omega))) | refine Below.trans ?_ (Below.mono hb6 (by first | omega | (simp; done) | (simp; omega))) | refine Below.trans ?_ (Below.mono hb7 (by first | omega | (simp; done) | (simp; omega))) | refine Below.trans ?_ (Below.mono hb8 (by first | omega | (simp; done) | (simp; omega))) | refine Below.trans ?_ (Below.mono hb9 (by first | omega | (simp; done) | (simp; omega)))))⟩
  case round =>
    obtain ⟨k, hk, rfl, hown, hB⟩ := hrel
    have hk2 : k < 1000000 := by omega
    obtain ⟨hg, hcx⟩ := hb.call hB
    have hc1 : (m : Int) < n - k → wr.cell? ⟨g, k + m, none⟩ = some (.int .i64 (bitI (k + m) x)) := fun h => hcx _ (by omega)
    have hc2 : wr.cell? ⟨g, n - 1, none⟩ = some (.int .i64 (bitI (n - 1) x)) := hcx _ (by omega)
    clear hcx hb
    go_wp2_with ((at_builtin; refine app_int hB (Nat.le_refl _) hown hk2 rfl rfl rfl _ rfl rfl ?_))
    · intro v' w1 hown1 hB1
      have hlt : k < n := by omega
      replace hown1 := next_row hown1 (by rw [bit_shr])
      clear hown hB
      go_wp2
      go_roundw
      case rel => exact ⟨k + 1, by omega, by simp, hown1, hB1⟩
      case measure => simp [intOf]; omega
    · intro v' w1 hown1 hB1
      have hlt : k < n := by omega
      replace hown1 := next_row hown1 (by rw [bit_shr]; exact bit_top hx (by omega))
      clear hown hB
      go_wp2
      go_roundw
      case rel => exact ⟨k + 1, by omega, by simp, hown1, hB1⟩
      case measure => simp [intOf]; omega
    · skip
      have hkl : k = n := by omega
      subst hkl
      go_ret
      exact fin_own hown hB (by omega)
end Go.Proofs.Ytdnccplmpgcleaa
