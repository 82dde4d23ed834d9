import Derived.Test.YtikjomekhnkgcaaW3
import Derived.Test.YtikjomekhnkgcaaMA
import Derived.Deep.QuietTactic
import Derived.BigQuiet
import Derived.RegionTactic
import Derived.LoopTactic
/- math/bits.Div64: two words by one. -/
namespace Go.Proofs.Ytikjomekhnkgcaa
open Go.RowKit

theorem ret2 {a a' b b' : Int} (h1 : a = a') (h2 : b = b') : Ending.returned (.tuple #[.int .u64 a, .int .u64 b]) = .returned (.tuple #[.int .u64 a', .int .u64 b']) := by rw [h1, h2]

theorem div64_0 (l y : Int) (hl : U64 l) (hy : U64 y) (h0 : 0 < y) (w : World) :
    Calls Try.prog 108 #[.int .u64 0, .int .u64 l, .int .u64 y] w fun e w' => e = .returned (.tuple #[.int .u64 (l / y), .int .u64 (l % y)]) ∧ Below w.heap.size w w' := by
  obtain ⟨l1, l2⟩ := hl
  obtain ⟨y1, y2⟩ := hy
  have b1 : ((y : Int) == 0) = false := by simp; omega
  obtain ⟨b2, b3⟩ : 0 ≤ l / y ∧ l / y ≤ l := ⟨Int.ediv_nonneg l1 y1, Int.ediv_le_self _ l1⟩
  go_enter Try.func108, Try.ntmps108
  go_wp2
  go_quiet (fail)
  go_wp2
  go_ret2
  exact ⟨rfl, below_drewN (Below.refl _ _) _⟩

set_option maxHeartbeats 4000000 in
theorem div64_1 (h l y : Int) (hh : 0 < h) (hhy : h < y) (hl : U64 l) (hy : U64 y) (w : World) :
    Calls Try.prog 108 #[.int .u64 h, .int .u64 l, .int .u64 y] w fun e w' =>
      e = .returned (.tuple #[.int .u64 ((h * 18446744073709551616 + l) / y), .int .u64 ((h * 18446744073709551616 + l) % y)]) ∧ Below w.heap.size w w' := by
  obtain ⟨k, hk, hs, ny0, ny1⟩ := lead_spec y hy (by omega)
  have L := Lib.hid (fun W => lead64 y hy (by omega) W)
  rw [hs] at L
  clear hs
  obtain ⟨A, B, A0, A1, hB, eN, eA, eB⟩ := shift_words h l y k hk (by omega) hhy hl ny0 ny1
  obtain ⟨B0, B1⟩ := hB
  have eY : IntKind.u64.wrap (y * 2 ^ k) = y * 2 ^ k := nwrap _ (by omega) ny1
  have n1 : Norm (y * 2 ^ k) A (B / 4294967296) ((A * 4294967296 + B / 4294967296) / (y * 2 ^ k)) := ⟨ny0, ny1, A0, A1, by omega, by omega, rfl⟩
  obtain ⟨r1, r2, r3⟩ := n1.rest
  generalize hQ1 : (A * 4294967296 + B / 4294967296) / (y * 2 ^ k) = Q1 at *
  have n0 : Norm (y * 2 ^ k) (A * 4294967296 + B / 4294967296 - Q1 * (y * 2 ^ k)) (B % 4294967296) (((A * 4294967296 + B / 4294967296 - Q1 * (y * 2 ^ k)) * 4294967296 + B % 4294967296) / (y * 2 ^ k)) := ⟨ny0, ny1, r1, r2, by omega, by omega, rfl⟩
  generalize hQ0 : ((A * 4294967296 + B / 4294967296 - Q1 * (y * 2 ^ k)) * 4294967296 + B % 4294967296) / (y * 2 ^ k) = Q0 at *
  have END := div_end h l y A B Q1 Q0 k (by omega) eN n1 n0
  obtain ⟨s1, s2, s3⟩ := n0.rest
  generalize (h * 18446744073709551616 + l) / y = RQ at *
  generalize (h * 18446744073709551616 + l) % y = RR at *
  clear eN hQ1 hQ0
  generalize hA2 : A * 4294967296 + B / 4294967296 - Q1 * (y * 2 ^ k) = A2 at *
  generalize hR2 : A2 * 4294967296 + B % 4294967296 - Q0 * (y * 2 ^ k) = R2 at *
  clear hA2 hR2
  generalize hYY : y * 2 ^ k = Y at *
  have eY2 : IntKind.u64.wrap (y * 2 ^ k) = Y := by rw [hYY]; exact eY
  clear hYY eY
  have eq1 : bits .and .u64 Y 4294967295 = Y % 4294967296 := and_mask Y ⟨by omega, ny1⟩
  have eb1 : bits .and .u64 B 4294967295 = B % 4294967296 := and_mask B ⟨B0, B1⟩
  have N1 := Lib.hid n1; have N0 := Lib.hid n0; clear n1 n0
  have END' := Lib.hid END; clear END
  obtain ⟨p1, p2, p3, p4⟩ := N1.out.parts
  have z1 := N1.out.q0; have z2 := N1.out.q1; have z3 := N0.out.q0; have z4 := N0.out.q1
  have g := N1.out.start
  have g' := N0.out.start
  have G := Lib.hid g
  have G0 := Lib.hid g'
  have i1 : 0 ≤ A / (Y / 4294967296) * (Y / 4294967296) := Int.mul_nonneg (Int.ediv_nonneg A0 (by omega)) (by omega)
  have i2 := g.r0; have i3 := g.r1; have i4 := g.top; have i5 : 0 ≤ A / (Y / 4294967296) := Int.ediv_nonneg A0 (by omega)
  have j1 : 0 ≤ A2 / (Y / 4294967296) * (Y / 4294967296) := Int.mul_nonneg (Int.ediv_nonneg r1 (by omega)) (by omega)
  have j2 := g'.r0; have j3 := g'.r1; have j4 := g'.top; have j5 : 0 ≤ A2 / (Y / 4294967296) := Int.ediv_nonneg r1 (by omega)
  clear g g'
  have b1 : ((y : Int) == 0) = false := by simp; omega
  have b4 : ((h : Int) == 0) = false := by simp; omega
  obtain ⟨l1, l2⟩ := hl
  obtain ⟨y1, y2⟩ := hy
  have K : 0 ≤ (k : Int) := by omega
  go_enter Try.func108, Try.ntmps108
  go_wp2_with (go_at_call 124; refine (L.out _).mono ?_; rintro e w1 ⟨rfl, rfl⟩)
  go_loop [15, 16] (fun x r => ∃ c s : Int, x = .int .u64 c ∧ r = .int .u64 s ∧ Hid (Guess Y A (B / 4294967296) Q1 c s) ∧ 0 ≤ c ∧ c ≤ 4294967297 ∧ 0 ≤ s ∧ s < 4294967296) (fun x _ => (intOf x).toNat)
  case atStart => exact ⟨_, _, rfl, rfl, G, by omega, by omega, by omega, by omega⟩
  case round =>
    clear G i1 i2 i3 i4 i5
    obtain ⟨c, s, rfl, rfl, G, g1, g2, g3, g4⟩ := hrel
    have lowc := G.out.low
    by_cases hcQ : c = Q1
    · have d := G.out
      rw [hcQ] at d
      obtain ⟨d1, d2, d3, d4, d5⟩ := d.done N1.out
      clear G lowc g1 g2
      subst hcQ
      clear d
      -- behind the first loop: the second digit
      go_wp2_with fail
      go_loop [18, 16] (fun x r => ∃ c s : Int, x = .int .u64 c ∧ r = .int .u64 s ∧ Hid (Guess Y A2 (B % 4294967296) Q0 c s) ∧ 0 ≤ c ∧ c ≤ 4294967297 ∧ 0 ≤ s ∧ s < 4294967296) (fun x _ => (intOf x).toNat)
      case atStart => exact ⟨_, _, rfl, rfl, G0, by omega, by omega, by omega, by omega⟩
      case round =>
        obtain ⟨c, s, rfl, rfl, G, g1, g2, g3, g4⟩ := hrel
        have lowc := G.out.low
        by_cases hcQ : c = Q0
        · have d := G.out
          rw [hcQ] at d
          obtain ⟨d1, d2, d3, d4, d5⟩ := d.done N0.out
          clear G lowc g1 g2
          subst hcQ
          go_wp2
          go_ret2
          exact ⟨ret2 END'.out.1 END'.out.2.1, Below.refl _ _⟩
        · obtain ⟨m0, _⟩ := G.out.nn N0.out
          have mm := G.out.more N0.out (by omega)
          have ms := fun hc => G.out.small N0.out hc
          by_cases hb : 4294967296 ≤ c
          · clear ms mm m0
            by_cases hr : s + Y / 4294967296 < 4294967296
            · have G2 := Lib.hid (G.out.next N0.out (by omega) hr)
              have hlt : Q0 < c := by omega
              clear G hcQ
              go_wp2
              go_round
              case rel => exact ⟨c - 1, s + Y / 4294967296, rfl, rfl, G2, by omega, by omega, by omega, by omega⟩
              case measure => simp [intOf]; omega
            · have e := G.out.last N0.out (by omega) (by omega)
              obtain rfl : c = Q0 + 1 := by omega
              clear G hcQ lowc
              go_wp2
              go_ret2
              exact ⟨ret2 END'.out.1 END'.out.2.1, Below.refl _ _⟩
          · have ms' := ms (by omega)
            clear ms
            by_cases hr : s + Y / 4294967296 < 4294967296
            · have G2 := Lib.hid (G.out.next N0.out (by omega) hr)
              have hlt : Q0 < c := by omega
              clear G hcQ
              go_wp2
              go_round
              case rel => exact ⟨c - 1, s + Y / 4294967296, rfl, rfl, G2, by omega, by omega, by omega, by omega⟩
              case measure => simp [intOf]; omega
            · have e := G.out.last N0.out (by omega) (by omega)
              obtain rfl : c = Q0 + 1 := by omega
              clear G hcQ lowc
              go_wp2
              go_ret2
              exact ⟨ret2 END'.out.1 END'.out.2.1, Below.refl _ _⟩
    · obtain ⟨m0, _⟩ := G.out.nn N1.out
      have mm := G.out.more N1.out (by omega)
      have ms := fun hc => G.out.small N1.out hc
      by_cases hb : 4294967296 ≤ c
      · clear ms mm m0
        by_cases hr : s + Y / 4294967296 < 4294967296
        · have G2 := Lib.hid (G.out.next N1.out (by omega) hr)
          have hlt : Q1 < c := by omega
          clear G hcQ
          go_wp2
          go_round
          case rel => exact ⟨c - 1, s + Y / 4294967296, rfl, rfl, G2, by omega, by omega, by omega, by omega⟩
          case measure => simp [intOf]; omega
        · have e := G.out.last N1.out (by omega) (by omega)
          obtain rfl : c = Q1 + 1 := by omega
          clear G hcQ lowc e
          -- behind the first loop: the second digit
          go_wp2_with fail
          go_loop [18, 16] (fun x r => ∃ c s : Int, x = .int .u64 c ∧ r = .int .u64 s ∧ Hid (Guess Y A2 (B % 4294967296) Q0 c s) ∧ 0 ≤ c ∧ c ≤ 4294967297 ∧ 0 ≤ s ∧ s < 4294967296) (fun x _ => (intOf x).toNat)
          case atStart => exact ⟨_, _, rfl, rfl, G0, by omega, by omega, by omega, by omega⟩
          case round =>
            obtain ⟨c, s, rfl, rfl, G, g1, g2, g3, g4⟩ := hrel
            have lowc := G.out.low
            by_cases hcQ : c = Q0
            · have d := G.out
              rw [hcQ] at d
              obtain ⟨d1, d2, d3, d4, d5⟩ := d.done N0.out
              clear G lowc g1 g2
              subst hcQ
              go_wp2
              go_ret2
              exact ⟨ret2 END'.out.1 END'.out.2.1, Below.refl _ _⟩
            · obtain ⟨m0, _⟩ := G.out.nn N0.out
              have mm := G.out.more N0.out (by omega)
              have ms := fun hc => G.out.small N0.out hc
              by_cases hb : 4294967296 ≤ c
              · clear ms mm m0
                by_cases hr : s + Y / 4294967296 < 4294967296
                · have G2 := Lib.hid (G.out.next N0.out (by omega) hr)
                  have hlt : Q0 < c := by omega
                  clear G hcQ
                  go_wp2
                  go_round
                  case rel => exact ⟨c - 1, s + Y / 4294967296, rfl, rfl, G2, by omega, by omega, by omega, by omega⟩
                  case measure => simp [intOf]; omega
                · have e := G.out.last N0.out (by omega) (by omega)
                  obtain rfl : c = Q0 + 1 := by omega
                  clear G hcQ lowc
                  go_wp2
                  go_ret2
                  exact ⟨ret2 END'.out.1 END'.out.2.1, Below.refl _ _⟩
              · have ms' := ms (by omega)
                clear ms
                by_cases hr : s + Y / 4294967296 < 4294967296
                · have G2 := Lib.hid (G.out.next N0.out (by omega) hr)
                  have hlt : Q0 < c := by omega
                  clear G hcQ
                  go_wp2
                  go_round
                  case rel => exact ⟨c - 1, s + Y / 4294967296, rfl, rfl, G2, by omega, by omega, by omega, by omega⟩
                  case measure => simp [intOf]; omega
                · have e := G.out.last N0.out (by omega) (by omega)
                  obtain rfl : c = Q0 + 1 := by omega
                  clear G hcQ lowc
                  go_wp2
                  go_ret2
                  exact ⟨ret2 END'.out.1 END'.out.2.1, Below.refl _ _⟩
      · have ms' := ms (by omega)
        clear ms
        by_cases hr : s + Y / 4294967296 < 4294967296
        · have G2 := Lib.hid (G.out.next N1.out (by omega) hr)
          have hlt : Q1 < c := by omega
          clear G hcQ
          go_wp2
          go_round
          case rel => exact ⟨c - 1, s + Y / 4294967296, rfl, rfl, G2, by omega, by omega, by omega, by omega⟩
          case measure => simp [intOf]; omega
        · have e := G.out.last N1.out (by omega) (by omega)
          obtain rfl : c = Q1 + 1 := by omega
          clear G hcQ lowc e
          -- behind the first loop: the second digit
          go_wp2_with fail
          go_loop [18, 16] (fun x r => ∃ c s : Int, x = .int .u64 c ∧ r = .int .u64 s ∧ Hid (Guess Y A2 (B % 4294967296) Q0 c s) ∧ 0 ≤ c ∧ c ≤ 4294967297 ∧ 0 ≤ s ∧ s < 4294967296) (fun x _ => (intOf x).toNat)
          case atStart => exact ⟨_, _, rfl, rfl, G0, by omega, by omega, by omega, by omega⟩
          case round =>
            obtain ⟨c, s, rfl, rfl, G, g1, g2, g3, g4⟩ := hrel
            have lowc := G.out.low
            by_cases hcQ : c = Q0
            · have d := G.out
              rw [hcQ] at d
              obtain ⟨d1, d2, d3, d4, d5⟩ := d.done N0.out
              clear G lowc g1 g2
              subst hcQ
              go_wp2
              go_ret2
              exact ⟨ret2 END'.out.1 END'.out.2.1, Below.refl _ _⟩
            · obtain ⟨m0, _⟩ := G.out.nn N0.out
              have mm := G.out.more N0.out (by omega)
              have ms := fun hc => G.out.small N0.out hc
              by_cases hb : 4294967296 ≤ c
              · clear ms mm m0
                by_cases hr : s + Y / 4294967296 < 4294967296
                · have G2 := Lib.hid (G.out.next N0.out (by omega) hr)
                  have hlt : Q0 < c := by omega
                  clear G hcQ
                  go_wp2
                  go_round
                  case rel => exact ⟨c - 1, s + Y / 4294967296, rfl, rfl, G2, by omega, by omega, by omega, by omega⟩
                  case measure => simp [intOf]; omega
                · have e := G.out.last N0.out (by omega) (by omega)
                  obtain rfl : c = Q0 + 1 := by omega
                  clear G hcQ lowc
                  go_wp2
                  go_ret2
                  exact ⟨ret2 END'.out.1 END'.out.2.1, Below.refl _ _⟩
              · have ms' := ms (by omega)
                clear ms
                by_cases hr : s + Y / 4294967296 < 4294967296
                · have G2 := Lib.hid (G.out.next N0.out (by omega) hr)
                  have hlt : Q0 < c := by omega
                  clear G hcQ
                  go_wp2
                  go_round
                  case rel => exact ⟨c - 1, s + Y / 4294967296, rfl, rfl, G2, by omega, by omega, by omega, by omega⟩
                  case measure => simp [intOf]; omega
                · have e := G.out.last N0.out (by omega) (by omega)
                  obtain rfl : c = Q0 + 1 := by omega
                  clear G hcQ lowc
                  go_wp2
                  go_ret2
                  exact ⟨ret2 END'.out.1 END'.out.2.1, Below.refl _ _⟩
end Go.Proofs.Ytikjomekhnkgcaa
