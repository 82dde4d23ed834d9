import Derived.Test.YtdnccplmpgcleaaB1
import Derived.Test.YtdnccplmpgcleaaW5
/- The reference's numbers as bits: Add, Neg, Below, Size. -/
namespace Go.Proofs.Ytdnccplmpgcleaa
open Go.RowKit

set_option maxHeartbeats 1000000 in
theorem radd_any (g c g2 c2 : Nat) (x y : Int) (n : Nat) (hn0 : 0 < n) (hn : n < 1000) (w : World) (hb : Bt w g n x) (hb2 : Bt w g2 n y) :
    Calls Try.prog 19 #[.slice (some ⟨g, 0, none⟩) n c, .slice (some ⟨g2, 0, none⟩) n c2] w fun e w' => Own w w' e n (x + y) := by
  go_enter Try.func19, Try.ntmps19
  go_wp2
  go_loopw [5, 6, 7] (fun v cc i wr => ∃ k : Nat, k ≤ n ∧ i = .int .i64 k ∧ cc = .int .i64 ((x % 2 ^ k + y % 2 ^ k) / 2 ^ k) ∧ wr.ownsRow w.heap.size 3 1 v k (bitL k (x + y)) ∧ Below w.heap.size w wr) (fun _ _ i _ => n - (intOf i).toNat)
  case atStart => exact ⟨0, Nat.zero_le _, rfl, by simp [Int.emod_one], World.ownsRow_nil _ _ _ _, (by repeat (first | exact Below.refl _ _ | refine Below.drew ?_ | refine Below.alloc ?_ (by first | omega | (simp; done) | (simp; omega)) _ | refine Below.setCell ?_ (by first | omega | (simp; done) | (simp; omega)) _ | exact BC | exact BW | exact hB | refine Below.trans ?_ (Below.mono hb1 (by first | omega | (simp; done) | (simp; omega))) | refine Below.trans ?_ (Below.mono hb2 (by first | omega | (simp; done) | (simp; omega))) | refine Below.trans ?_ (Below.mono hb3 (by first | omega | (simp; done) | (simp; omega))) | refine Below.trans ?_ (Below.mono hb4 (by first | omega | (simp; done) | (simp; omega))) | refine Below.trans ?_ (Below.mono hb5 (by first | omega | (simp; done) | (simp; omega))) | refine Below.trans ?_ (Below.mono hb6 (by first | omega | (simp; done) | (simp; omega))) | refine Below.trans ?_ (Below.mono hb7 (by first | omega | (simp; done) | (simp; omega))) | refine Below.trans ?_ (Below.mono hb8 (by first | omega | (simp; done) | (simp; omega))) | refine Below.trans ?_ (Below.mono hb9 (by first | omega | (simp; done) | (simp; omega)))))⟩
  case round =>
    obtain ⟨k, hk, rfl, rfl, hown, hB⟩ := hrel
    have hk2 : k < 1000000 := by omega
    obtain ⟨hg, hcx⟩ := hb.call hB
    obtain ⟨hg2, hcy⟩ := hb2.call hB
    obtain ⟨cc, hcc⟩ : ∃ cc, cc = (x % 2 ^ k + y % 2 ^ k) / 2 ^ k := ⟨_, rfl⟩
    rw [← hcc]
    obtain ⟨s0, s1, s2, s3⟩ := add_step x y k cc hcc
    by_cases hlt : k < n
    · have c1 := hcx k hlt
      have c2 := hcy k hlt
      have b1 := bitI_01 k x
      have b2 := bitI_01 k y
      have p1 := pack_cell c1 hg
      have p2 := pack_cell c2 hg2
      have S := Lib.hid (And.intro s2 s3)
      clear hcx hcy s2 s3 hcc hb hb2
      generalize bitI k x = bx at *
      generalize bitI k y = by' at *
      go_wp2
      refine wp_region_pack (by kernel_rfl) (by kernel_rfl) ?_
      repeat (first | go_big_quiet_skip | (go_big_quiet_want; go_big_quiet_op; first | go_big_quiet_on | (apply Exists.intro; refine ⟨fun npk => ?_, ?_⟩; (focus (first | fail)); go_big_quiet_on)))
      refine wpQuiet_nil ?_
      intro nq
      have hown0 := own_below hown nq.ok
      have hB0 : Below w.heap.size w nq.w := hB.trans (nq.ok.mono hB.size)
      go_wp2_with (at_builtin; refine app_int hB0 (Nat.le_refl _) hown0 hk2 rfl rfl rfl _ rfl rfl ?_)
      intro v' w1 hown1 hB1
      obtain ⟨s2, s3⟩ := S.out
      replace hown1 := next_row hown1 s2
      clear hown0 hB0 hown hB p1 p2 c1 c2
      go_wp2
      go_roundw
      case rel => exact ⟨k + 1, by omega, by simp, by simp [s3], hown1, hB1⟩
      case measure => simp [intOf]; omega
    · have hkl : k = n := by omega
      subst hkl
      clear hcx hcy s2 s3 s0 s1 hcc hb hb2
      go_wp2
      go_ret
      exact fin_own hown hB (by omega)
set_option maxHeartbeats 1000000 in
theorem rneg_any (g c : Nat) (x : Int) (n : Nat) (hn0 : 0 < n) (hn : n < 1000) (w : World) (hb : Bt w g n x) :
    Calls Try.prog 20 #[.slice (some ⟨g, 0, none⟩) n c] w fun e w' => Own w w' e n (-x) := by
  go_enter Try.func20, Try.ntmps20
  go_wp2
  go_loopw [3, 4] (fun v i wr => ∃ k : Nat, k ≤ n ∧ i = .int .i64 k ∧ wr.ownsRow w.heap.size 3 1 v k (bitL k (-1 - x)) ∧ Below w.heap.size w wr) (fun _ i _ => n - (intOf i).toNat)
  case atStart => exact ⟨0, Nat.zero_le _, rfl, World.ownsRow_nil _ _ _ _, (by repeat (first | exact Below.refl _ _ | refine Below.drew ?_ | refine Below.alloc ?_ (by first | omega | (simp; done) | (simp; omega)) _ | refine Below.setCell ?_ (by first | omega | (simp; done) | (simp; omega)) _ | exact BC | exact BW | exact hB | refine Below.trans ?_ (Below.mono hb1 (by first | omega | (simp; done) | (simp; omega))) | refine Below.trans ?_ (Below.mono hb2 (by first | omega | (simp; done) | (simp; omega))) | refine Below.trans ?_ (Below.mono hb3 (by first | omega | (simp; done) | (simp; omega))) | refine Below.trans ?_ (Below.mono hb4 (by first | omega | (simp; done) | (simp; omega))) | refine Below.trans ?_ (Below.mono hb5 (by first | omega | (simp; done) | (simp; omega))) | refine Below.trans ?_ (Below.mono hb6 (by first | omega | (simp; done) | (simp; omega))) | refine Below.trans ?_ (Below.mono hb7 (by first | omega | (simp; done) | (simp; omega))) | refine Below.trans ?_ (Below.mono hb8 (by first | omega | (simp; done) | (simp; omega))) | refine Below.trans ?_ (Below.mono hb9 (by first | omega | (simp; done) | (simp; omega)))))⟩
  case round =>
    obtain ⟨k, hk, rfl, hown, hB⟩ := hrel
    have hk2 : k < 1000000 := by omega
    obtain ⟨hg, hcx⟩ := hb.call hB
    by_cases hlt : k < n
    · have c1 := hcx k hlt
      have b1 := bitI_01 k x
      have S := Lib.hid (bit_not k x)
      clear hcx hb
      generalize bitI k x = bx at *
      go_wp2_with ((at_builtin; refine app_int hB (Nat.le_refl _) hown hk2 rfl rfl rfl _ rfl rfl ?_))
      intro v' w1 hown1 hB1
      replace hown1 := next_row hown1 S.out.symm
      clear hown hB
      go_wp2
      go_roundw
      case rel => exact ⟨k + 1, by omega, by simp, hown1, hB1⟩
      case measure => simp [intOf]; omega
    · have hkl : k = n := by omega
      subst hkl
      clear hcx hb
      obtain ⟨g1, c1, rfl, m1, m2, m3, m4⟩ := row_bt hown hn0
      go_wp2_with (first
        | (go_at_call 22; refine (rint_any 1 (by unfold In64; omega) _ hn0 hn _).mono ?_; rintro e w1 ⟨g2, c2, rfl, m5, m6, m7, m8, m9⟩; have m10 := m3.call m9; (try simp only [Int.toNat_natCast] at m7))
        | (go_at_call 19; refine (radd_any _ _ _ _ _ _ _ hn0 hn _ (by assumption) (by assumption)).mono ?_; rintro e w2 ⟨g3, c3, rfl, q1, q2, q3, q4, q5⟩))
      go_ret
      have z := m9.size
      have z2 := hB.size
      rw [show -1 - x + 1 = -x by omega] at q3
      exact ⟨_, _, rfl, q1, by omega, q3, q4, (hB.trans (m9.mono (by omega))).trans (q5.mono (by omega))⟩

theorem rbelow_any (g c : Nat) (x : Int) (n : Nat) (hx : InB n x) (hn0 : 0 < n) (hn : n < 1000) (w : World) (hb : Bt w g n x) :
    Calls Try.prog 52 #[.slice (some ⟨g, 0, none⟩) n c] w fun e w' => e = .returned (.bool (decide (x < 0))) ∧ Below w.heap.size w w' := by
  have c1 := hb.2 (n - 1) (by omega)
  rw [bit_sign hx (Nat.le_refl _)] at c1
  clear hb
  by_cases h0 : x < 0
  · rw [if_pos h0] at c1
    go_enter Try.func52, Try.ntmps52
    go_wp2
    go_ret
    exact ⟨by simp; omega, (by repeat (first | exact Below.refl _ _ | refine Below.drew ?_ | refine Below.alloc ?_ (by first | omega | (simp; done) | (simp; omega)) _ | refine Below.setCell ?_ (by first | omega | (simp; done) | (simp; omega)) _ | exact BC | exact BW | exact hB | refine Below.trans ?_ (Below.mono hb1 (by first | omega | (simp; done) | (simp; omega))) | refine Below.trans ?_ (Below.mono hb2 (by first | omega | (simp; done) | (simp; omega))) | refine Below.trans ?_ (Below.mono hb3 (by first | omega | (simp; done) | (simp; omega))) | refine Below.trans ?_ (Below.mono hb4 (by first | omega | (simp; done) | (simp; omega))) | refine Below.trans ?_ (Below.mono hb5 (by first | omega | (simp; done) | (simp; omega))) | refine Below.trans ?_ (Below.mono hb6 (by first | omega | (simp; done) | (simp; omega))) | refine Below.trans ?_ (Below.mono hb7 (by first | omega | (simp; done) | (simp; omega))) | refine Below.trans ?_ (Below.mono hb8 (by first | omega | (simp; done) | (simp; omega))) | refine Below.trans ?_ (Below.mono hb9 (by first | omega | (simp; done) | (simp; omega)))))⟩
  · rw [if_neg h0] at c1
    go_enter Try.func52, Try.ntmps52
    go_wp2
    go_ret
    exact ⟨by simp; omega, (by repeat (first | exact Below.refl _ _ | refine Below.drew ?_ | refine Below.alloc ?_ (by first | omega | (simp; done) | (simp; omega)) _ | refine Below.setCell ?_ (by first | omega | (simp; done) | (simp; omega)) _ | exact BC | exact BW | exact hB | refine Below.trans ?_ (Below.mono hb1 (by first | omega | (simp; done) | (simp; omega))) | refine Below.trans ?_ (Below.mono hb2 (by first | omega | (simp; done) | (simp; omega))) | refine Below.trans ?_ (Below.mono hb3 (by first | omega | (simp; done) | (simp; omega))) | refine Below.trans ?_ (Below.mono hb4 (by first | omega | (simp; done) | (simp; omega))) | refine Below.trans ?_ (Below.mono hb5 (by first | omega | (simp; done) | (simp; omega))) | refine Below.trans ?_ (Below.mono hb6 (by first | omega | (simp; done) | (simp; omega))) | refine Below.trans ?_ (Below.mono hb7 (by first | omega | (simp; done) | (simp; omega))) | refine Below.trans ?_ (Below.mono hb8 (by first | omega | (simp; done) | (simp; omega))) | refine Below.trans ?_ (Below.mono hb9 (by first | omega | (simp; done) | (simp; omega)))))⟩

set_option maxHeartbeats 1000000 in
theorem rsize_any (g c : Nat) (x : Int) (n : Nat) (hx : InB n x) (hn0 : 0 < n) (hn : n + 1 < 1000) (w : World) (hb : Bt w g n x) :
    Calls Try.prog 54 #[.slice (some ⟨g, 0, none⟩) n c] w fun e w' => Own w w' e (n + 1) (absI x) := by
  have hn1 : n < 1000 := by omega
  by_cases h0 : x < 0
  · have ea : absI x = -x := by unfold absI; rw [if_pos h0]
    go_enter Try.func54, Try.ntmps54
    go_wp2_with (first
      | (go_at_call 46; refine (rwider_any _ _ _ _ (n + 1) hx hn0 hn1 (by omega) hn _ (by assumption)).mono ?_; rintro e w1 ⟨g2, c2, rfl, m5, m6, m7, m8, m9⟩; have m10 := hb.call m9)
      | (go_at_call 52; refine (rbelow_any _ _ _ _ hx hn0 hn1 _ (by assumption)).mono ?_; rintro e w2 ⟨rfl, p1⟩; have p2 := m7.call p1)
      | (go_at_call 20; refine (rneg_any _ _ _ _ (by omega) (by omega) _ (by assumption)).mono ?_; rintro e w3 ⟨g3, c3, rfl, q1, q2, q3, q4, q5⟩))
    go_ret
    rw [ea]
    exact ⟨_, _, rfl, q1, by have := m9.size; have := p1.size; omega, q3, q4, (m9.trans (p1.mono m9.size)).trans (q5.mono (by have := m9.size; have := p1.size; omega))⟩
  · have ea : absI x = x := by unfold absI; rw [if_neg h0]
    go_enter Try.func54, Try.ntmps54
    go_wp2_with (first
      | (go_at_call 46; refine (rwider_any _ _ _ _ (n + 1) hx hn0 hn1 (by omega) hn _ (by assumption)).mono ?_; rintro e w1 ⟨g2, c2, rfl, m5, m6, m7, m8, m9⟩; have m10 := hb.call m9)
      | (go_at_call 52; refine (rbelow_any _ _ _ _ hx hn0 hn1 _ (by assumption)).mono ?_; rintro e w2 ⟨rfl, p1⟩; have p2 := m7.call p1)
      | (go_at_call 20; refine (rneg_any _ _ _ _ (by omega) (by omega) _ (by assumption)).mono ?_; rintro e w3 ⟨g3, c3, rfl, q1, q2, q3, q4, q5⟩))
    go_ret
    rw [ea]
    exact ⟨_, _, rfl, m5, m6, p2, fun i => (p1.frozen (p := ⟨g2, i, none⟩) m7.1).trans (m8 i), m9.trans (p1.mono m9.size)⟩
end Go.Proofs.Ytdnccplmpgcleaa
