import Derived.Test.YtikjomekhnkgcaaW5
import Derived.Deep.RegionHeld3
import Derived.Deep.DeepCutAuto
import Derived.Deep.DrawnRows
/- Rounding of package wide. -/
namespace Go.Proofs.Ytikjomekhnkgcaa
open Go.RowKit
attribute [local go_sem ↓] Go.wp_at_zero Go.wp_at_succ

/-- What Round answers. -/
def roundI (a n : Int) : Int := if n ≤ 0 then a else if 127 < n then 0 else rnd a (2 ^ n.toNat)

theorem round_nums (a n : Int) (ha : In128 a) (h0 : 0 < n) (h1 : n ≤ 127) :
    shrI a n = a / 2 ^ n.toNat ∧ shlI (a / 2 ^ n.toNat) n = a / 2 ^ n.toNat * 2 ^ n.toNat ∧ w128 (a - a / 2 ^ n.toNat * 2 ^ n.toNat) = a % 2 ^ n.toNat ∧
    2 * shlI 1 (n - 1) = 2 ^ n.toNat ∧ w128 (a / 2 ^ n.toNat + 1) = a / 2 ^ n.toNat + 1 := by
  obtain ⟨k, hk⟩ : ∃ k : Nat, n.toNat = k + 1 := ⟨n.toNat - 1, by omega⟩
  have hk2 : k + 1 ≤ 127 := by omega
  have e1 : shrI a n = a / 2 ^ n.toNat := by unfold shrI; rw [if_neg (by omega), if_neg (by omega)]
  have hp := pow_pos' n.toNat
  have hle : (2 : Int) ^ (k + 1) * 2 ^ (127 - (k + 1)) = 170141183460469231731687303715884105728 := by
    rw [← Int.pow_add, show k + 1 + (127 - (k + 1)) = 127 by omega]; decide
  have hp2 := pow_pos' (127 - (k + 1))
  have hp3 := pow_pos' k
  have e4 : (2 : Int) ^ n.toNat = 2 * 2 ^ k := by rw [hk, Int.pow_succ, Int.mul_comm]
  have hmax : (2 : Int) ^ n.toNat ≤ 170141183460469231731687303715884105728 := by
    rw [hk, ← hle]
    have : (2 : Int) ^ (k + 1) * 1 ≤ 2 ^ (k + 1) * 2 ^ (127 - (k + 1)) := Int.mul_le_mul_of_nonneg_left (by omega) (by rw [← hk]; omega)
    omega
  have hm := Int.mul_ediv_add_emod a (2 ^ n.toNat)
  have hm0 := Int.emod_nonneg a (show (2 : Int) ^ n.toNat ≠ 0 by omega)
  have hm1 := Int.emod_lt_of_pos a hp
  have hcomm : a / 2 ^ n.toNat * 2 ^ n.toNat = 2 ^ n.toNat * (a / 2 ^ n.toNat) := Int.mul_comm _ _
  obtain ⟨a0, a1⟩ := ha
  -- the floor times the power does not leave the range
  have hfl : -170141183460469231731687303715884105728 ≤ 2 ^ n.toNat * (a / 2 ^ n.toNat) := by
    have h2 : -(2 : Int) ^ (127 - (k + 1)) ≤ a / 2 ^ n.toNat := by
      rw [Int.le_ediv_iff_mul_le hp, hk, Int.neg_mul, Int.mul_comm, hle]; exact a0
    have h3 : 2 ^ n.toNat * (-(2 : Int) ^ (127 - (k + 1))) ≤ 2 ^ n.toNat * (a / 2 ^ n.toNat) := Int.mul_le_mul_of_nonneg_left h2 (by omega)
    rw [Int.mul_neg] at h3
    conv at h3 => lhs; rw [hk, hle]
    exact h3
  have e2 : shlI (a / 2 ^ n.toNat) n = a / 2 ^ n.toNat * 2 ^ n.toNat := by
    unfold shlI; rw [if_neg (by omega), if_neg (by omega)]
    exact w128_id ⟨by omega, by omega⟩
  have e3 : w128 (a - a / 2 ^ n.toNat * 2 ^ n.toNat) = a % 2 ^ n.toNat := by
    rw [w128_id ⟨by omega, by omega⟩]; omega
  have e5 : 2 * shlI 1 (n - 1) = 2 ^ n.toNat := by
    rw [e4]
    unfold shlI
    by_cases hn : n - 1 ≤ 0
    · rw [if_pos hn]
      have : k = 0 := by omega
      subst this; rfl
    · rw [if_neg hn, if_neg (by omega), show (n - 1).toNat = k by omega, Int.one_mul, w128_id ⟨by omega, by omega⟩]
  refine ⟨e1, e2, e3, e5, w128_id ⟨?_, ?_⟩⟩
  · have h2 : (2 : Int) ^ n.toNat * (a / 2 ^ n.toNat) ≤ a := by omega
    have h3 : -170141183460469231731687303715884105728 ≤ a / 2 ^ n.toNat := by
      rw [Int.le_ediv_iff_mul_le hp]
      have : (170141183460469231731687303715884105728 : Int) * 1 ≤ 170141183460469231731687303715884105728 * 2 ^ n.toNat := Int.mul_le_mul_of_nonneg_left (by omega) (by omega)
      omega
    omega
  · have h3 : a / 2 ^ n.toNat < 85070591730234615865843651857942052864 := by
      rw [Int.ediv_lt_iff_lt_mul hp]
      have : (85070591730234615865843651857942052864 : Int) * 2 ≤ 85070591730234615865843651857942052864 * 2 ^ n.toNat := Int.mul_le_mul_of_nonneg_left (by omega) (by omega)
      omega
    omega


set_option maxHeartbeats 1000000 in
theorem round_mid (a n : Int) (ha : In128 a) (hn0 : 0 < n) (hn1 : n ≤ 127) (w : World) :
    Calls Try.prog 71 #[.agg #[.int .i64 (hi a), .int .u64 (lo a)], .int .i64 n] w fun e w' =>
      e = .returned (.agg #[.int .i64 (hi (rnd a (2 ^ n.toNat))), .int .u64 (lo (rnd a (2 ^ n.toNat)))]) ∧ Below w.heap.size w w' := by
  obtain ⟨i1, i2, i3, i4, i5⟩ := round_nums a n ha hn0 hn1
  have R1 := Lib.hid (fun W => shr_any a n ha (by unfold In64; omega) W)
  have R2 := Lib.hid (fun W => shl_any (a / 2 ^ n.toNat) n (by unfold In64; omega) W)
  have R3 := Lib.hid (fun W => sub_any a (a / 2 ^ n.toNat * 2 ^ n.toNat) W)
  have O1 := Lib.hid (fun W => of_any 1 (by unfold In64; omega) W)
  have R4 := Lib.hid (fun W => shl_any 1 (n - 1) (by unfold In64; omega) W)
  have R5 := Lib.hid (fun W => cmp_any (a % 2 ^ n.toNat) (shlI 1 (n - 1)) W)
  have R6 := Lib.hid (fun W => add_any (a / 2 ^ n.toNat) 1 W)
  rw [i1] at R1
  rw [i2] at R2
  rw [i3] at R3
  rw [i5] at R6
  have hrnd : rnd a (2 ^ n.toNat) = if shlI 1 (n - 1) < a % 2 ^ n.toNat ∨ a % 2 ^ n.toNat = shlI 1 (n - 1) ∧ a / 2 ^ n.toNat % 2 = 1 then a / 2 ^ n.toNat + 1 else a / 2 ^ n.toNat := by
    unfold rnd; split <;> split <;> first | rfl | omega
  clear i1 i2 i3 i4 i5
  generalize rnd a (2 ^ n.toNat) = R at *
  generalize a / 2 ^ n.toNat = q at *
  generalize q * 2 ^ n.toNat = s at *
  generalize a % 2 ^ n.toNat = r at *
  generalize shlI 1 (n - 1) = h at *
  have m0 : 0 < n := hn0
  have pb : lo q % 2 = q % 2 := by unfold lo; omega
  by_cases t1 : h < r
  · obtain rfl : R = q + 1 := by rw [hrnd, if_pos (.inl t1)]
    have ec : cmpI r h = 1 := by unfold cmpI; rw [if_neg (by omega), if_neg (by omega)]
    rw [ec] at R5
    clear hrnd t1 pb ec
    go_enter Try.func71, Try.ntmps71
    go_wp2_with (go_at_call 97; refine (R1.out _).mono ?_; rintro e w1 ⟨rfl, hb1⟩; obtain ⟨hc1, hf1, hz1⟩ := bcell hb1; (try simp at hz1); (try have : w.heap.size < w1.heap.size := by omega); (try have : w.heap.size + 1 < w1.heap.size := by omega); (try have : w.heap.size + 1 + 1 < w1.heap.size := by omega); (try have : w.heap.size + 1 + 1 + 1 < w1.heap.size := by omega); (try have : g < w1.heap.size := by omega); (try have : ga < w1.heap.size := by omega); (try have : gb < w1.heap.size := by omega); (try have : gc < w1.heap.size := by omega))
    have f0 : w.heap.size < w1.heap.size := by omega
    have bx0 : w1.heap[w.heap.size + 1]? = some (.cells #[.int .i64 0, .int .u64 0] 95) := by
      rw [hb1.block _ (by simp)]
      have := heap_alloc_new (w.alloc (.cells #[.int .i64 (hi a), .int .u64 (lo a)] 95)) (.cells #[.int .i64 0, .int .u64 0] 95)
      simpa using this
    refine at_world fun W0 hW0 => ?_
    have c1 : W0.cell? ⟨w.heap.size, 0, none⟩ = some (.int .i64 (hi a)) := by subst hW0; simp [*, go_sem, World.cell?_alloc_past]
    have c2 : W0.cell? ⟨w.heap.size, 1, none⟩ = some (.int .u64 (lo a)) := by subst hW0; simp [*, go_sem, World.cell?_alloc_past]
    have c3 : W0.cell? ⟨w1.heap.size, 0, none⟩ = some (.int .i64 (hi q)) := by subst hW0; simp [go_sem]
    have c4 : W0.cell? ⟨w1.heap.size, 1, none⟩ = some (.int .u64 (lo q)) := by subst hW0; simp [go_sem]
    have bx1 : W0.heap[w.heap.size + 1]? = some (.cells #[.int .i64 0, .int .u64 0] 95) := by
      subst hW0; exact (Below.heap_alloc w1 _ _ (by omega)).trans bx0
    have k1 : w.heap.size < W0.heap.size := by subst hW0; simp; omega
    have k2 : w1.heap.size < W0.heap.size := by subst hW0; simp
    have BW : Below w.heap.size w W0 := by subst hW0; exact (by repeat (first | (with_reducible exact Below.refl _ _) | (with_reducible assumption) | (with_reducible refine Below.drew ?_) | (with_reducible refine Below.alloc ?_ ?_ _) | (with_reducible refine Below.setCell ?_ ?_ _) | (with_reducible refine Below.trans ?_ (Below.mono hb ?_)) | (with_reducible refine Below.trans ?_ (Below.mono hb1 ?_)) | (with_reducible refine Below.trans ?_ (Below.mono hb2 ?_)) | (with_reducible refine Below.trans ?_ (Below.mono hb3 ?_)) | (with_reducible refine Below.trans ?_ (Below.mono hb4 ?_)) | (with_reducible refine Below.trans ?_ (Below.mono hb5 ?_)) | (with_reducible refine Below.trans ?_ (Below.mono hb6 ?_)) | (with_reducible refine Below.trans ?_ (Below.mono hb7 ?_)) | (with_reducible refine Below.trans ?_ (Below.mono hb8 ?_)) | (with_reducible refine Below.trans ?_ (Below.mono hb9 ?_)) | (focus (first | omega | (simp; done) | (simp; omega))) | exact hB))
    clear hW0 bx0 hc1 hf1
    go_cut [6] (fun v w' => ∃ g : Nat, v = .pointer (some ⟨g, 0, none⟩) ∧ W0.heap.size ≤ g ∧ g < w'.heap.size ∧ Below W0.heap.size W0 w' ∧ w'.cell? ⟨g, 0, none⟩ = some (.int .i64 (hi r)) ∧ w'.cell? ⟨g, 1, none⟩ = some (.int .u64 (lo r)))
    case first =>
      go_region_held3 (fun w' => Below W0.heap.size W0 w' ∧ ∀ b o, b < W0.heap.size → w'.cell? ⟨b, o, none⟩ = W0.cell? ⟨b, o, none⟩) ((first | (refine sb_call ?_ hb; assumption) | exact sb_of hs | exact sb_of (Below.drew hs) | (refine sb_call ?_ hb1; assumption) | (refine sb_call ?_ hb2; assumption) | (refine sb_call ?_ hb3; assumption) | (refine sb_call ?_ hb4; assumption) | (refine sb_call ?_ hb5; assumption) | (refine sb_call ?_ hb6; assumption) | (refine sb_call ?_ hb7; assumption) | (refine sb_call ?_ hb8; assumption) | (refine sb_call ?_ hb9; assumption) | exact sb_of (by repeat (first | (with_reducible exact Below.refl _ _) | (with_reducible assumption) | (with_reducible refine Below.drew ?_) | (with_reducible refine Below.alloc ?_ ?_ _) | (with_reducible refine Below.setCell ?_ ?_ _) | (with_reducible refine Below.trans ?_ (Below.mono hb ?_)) | (with_reducible refine Below.trans ?_ (Below.mono hb1 ?_)) | (with_reducible refine Below.trans ?_ (Below.mono hb2 ?_)) | (with_reducible refine Below.trans ?_ (Below.mono hb3 ?_)) | (with_reducible refine Below.trans ?_ (Below.mono hb4 ?_)) | (with_reducible refine Below.trans ?_ (Below.mono hb5 ?_)) | (with_reducible refine Below.trans ?_ (Below.mono hb6 ?_)) | (with_reducible refine Below.trans ?_ (Below.mono hb7 ?_)) | (with_reducible refine Below.trans ?_ (Below.mono hb8 ?_)) | (with_reducible refine Below.trans ?_ (Below.mono hb9 ?_)) | (focus (first | omega | (simp; done) | (simp; omega))) | exact hB))))
        (first
          | (go_at_call 68; refine (R2.out _).mono ?_; rintro e w2 ⟨rfl, hb2⟩; have hs2 := sb_below (by assumption) hb2; have hz2 := hs2.size; obtain ⟨hc2, hf2, hy2⟩ := bcell hb2; (try simp at hy2); (try have : W0.heap.size < w2.heap.size := by omega); (try have : w1.heap.size < w2.heap.size := by omega))
          | (go_at_call 98; refine (R3.out _).mono ?_; rintro e w3 ⟨rfl, hb3⟩; have hs3 := sb_below (by assumption) hb3; have hz3 := hs3.size; obtain ⟨hc3, hf3, hy3⟩ := bcell hb3; (try simp at hy3); (try have : W0.heap.size < w3.heap.size := by omega); (try have : w1.heap.size < w3.heap.size := by omega); (try have : w2.heap.size < w3.heap.size := by omega)))
      all_goals
        go_wp2_with fail
        go_meet
        case rel => exact ⟨_, rfl, (by first | omega | (simp; done) | (simp; omega)), (by first | omega | (simp; done) | (simp; omega)), (by assumption : _ ∧ _).1, by simp [*, go_sem], by simp [*, go_sem]⟩
    case rest =>
    obtain ⟨g, rfl, g1, g2, hB, d1, d2⟩ := hcut
    have d3 : wc.cell? ⟨w1.heap.size, 0, none⟩ = some (.int .i64 (hi q)) := by rw [hB.cell (p := ⟨w1.heap.size, 0, none⟩) k2]; exact c3
    have d4 : wc.cell? ⟨w1.heap.size, 1, none⟩ = some (.int .u64 (lo q)) := by rw [hB.cell (p := ⟨w1.heap.size, 1, none⟩) k2]; exact c4
    have bx2 : wc.heap[w.heap.size + 1]? = some (.cells #[.int .i64 0, .int .u64 0] 95) := (hB.block _ (by omega)).trans bx1
    have k3 : w1.heap.size < wc.heap.size := by omega
    have BC : Below w.heap.size w wc := BW.trans (hB.mono (by omega))
    have e1 : wc.cell? ⟨w.heap.size + 1, 0, none⟩ = some (.int .i64 0) := by simp [World.cell?, bx2]
    have e2 : wc.cell? ⟨w.heap.size + 1, 1, none⟩ = some (.int .u64 0) := by simp [World.cell?, bx2]
    have e3 : wc.frozen? ⟨w.heap.size + 1, 0, none⟩ = false := by simp [World.frozen?, bx2]
    have e4 : wc.frozen? ⟨w.heap.size + 1, 1, none⟩ = false := by simp [World.frozen?, bx2]
    have k4 : w.heap.size + 1 < wc.heap.size := by omega
    clear c1 c2 c3 c4 k1 k2 BW g1 hB bx1
    go_wp2_with (first | (go_at_call 69; refine (O1.out _).mono ?_; rintro e w4 ⟨rfl, hb4⟩; obtain ⟨hc4, hf4, hz4⟩ := bcell hb4; (try simp at hz4); (try have : w.heap.size < w4.heap.size := by omega); (try have : w.heap.size + 1 < w4.heap.size := by omega); (try have : w.heap.size + 1 + 1 < w4.heap.size := by omega); (try have : w.heap.size + 1 + 1 + 1 < w4.heap.size := by omega); (try have : w1.heap.size < w4.heap.size := by omega); (try have : w1.heap.size + 1 < w4.heap.size := by omega); (try have : w1.heap.size + 1 + 1 < w4.heap.size := by omega); (try have : w1.heap.size + 1 + 1 + 1 < w4.heap.size := by omega); (try have : w2.heap.size < w4.heap.size := by omega); (try have : w2.heap.size + 1 < w4.heap.size := by omega); (try have : w2.heap.size + 1 + 1 < w4.heap.size := by omega); (try have : w2.heap.size + 1 + 1 + 1 < w4.heap.size := by omega); (try have : w3.heap.size < w4.heap.size := by omega); (try have : w3.heap.size + 1 < w4.heap.size := by omega); (try have : w3.heap.size + 1 + 1 < w4.heap.size := by omega); (try have : w3.heap.size + 1 + 1 + 1 < w4.heap.size := by omega); (try have : g < w4.heap.size := by omega); (try have : ga < w4.heap.size := by omega); (try have : gb < w4.heap.size := by omega); (try have : gc < w4.heap.size := by omega)) | (go_at_call 68; refine (R4.out _).mono ?_; rintro e w5 ⟨rfl, hb5⟩; obtain ⟨hc5, hf5, hz5⟩ := bcell hb5; (try simp at hz5); (try have : w.heap.size < w5.heap.size := by omega); (try have : w.heap.size + 1 < w5.heap.size := by omega); (try have : w.heap.size + 1 + 1 < w5.heap.size := by omega); (try have : w.heap.size + 1 + 1 + 1 < w5.heap.size := by omega); (try have : w1.heap.size < w5.heap.size := by omega); (try have : w1.heap.size + 1 < w5.heap.size := by omega); (try have : w1.heap.size + 1 + 1 < w5.heap.size := by omega); (try have : w1.heap.size + 1 + 1 + 1 < w5.heap.size := by omega); (try have : w2.heap.size < w5.heap.size := by omega); (try have : w2.heap.size + 1 < w5.heap.size := by omega); (try have : w2.heap.size + 1 + 1 < w5.heap.size := by omega); (try have : w2.heap.size + 1 + 1 + 1 < w5.heap.size := by omega); (try have : w3.heap.size < w5.heap.size := by omega); (try have : w3.heap.size + 1 < w5.heap.size := by omega); (try have : w3.heap.size + 1 + 1 < w5.heap.size := by omega); (try have : w3.heap.size + 1 + 1 + 1 < w5.heap.size := by omega); (try have : w4.heap.size < w5.heap.size := by omega); (try have : w4.heap.size + 1 < w5.heap.size := by omega); (try have : w4.heap.size + 1 + 1 < w5.heap.size := by omega); (try have : w4.heap.size + 1 + 1 + 1 < w5.heap.size := by omega); (try have : g < w5.heap.size := by omega); (try have : ga < w5.heap.size := by omega); (try have : gb < w5.heap.size := by omega); (try have : gc < w5.heap.size := by omega)) | (go_at_call 99; refine (R5.out _).mono ?_; rintro e w6 ⟨rfl, hb6⟩; obtain ⟨hc6, hf6, hz6⟩ := bcell hb6; (try simp at hz6); (try have : w.heap.size < w6.heap.size := by omega); (try have : w.heap.size + 1 < w6.heap.size := by omega); (try have : w.heap.size + 1 + 1 < w6.heap.size := by omega); (try have : w.heap.size + 1 + 1 + 1 < w6.heap.size := by omega); (try have : w1.heap.size < w6.heap.size := by omega); (try have : w1.heap.size + 1 < w6.heap.size := by omega); (try have : w1.heap.size + 1 + 1 < w6.heap.size := by omega); (try have : w1.heap.size + 1 + 1 + 1 < w6.heap.size := by omega); (try have : w2.heap.size < w6.heap.size := by omega); (try have : w2.heap.size + 1 < w6.heap.size := by omega); (try have : w2.heap.size + 1 + 1 < w6.heap.size := by omega); (try have : w2.heap.size + 1 + 1 + 1 < w6.heap.size := by omega); (try have : w3.heap.size < w6.heap.size := by omega); (try have : w3.heap.size + 1 < w6.heap.size := by omega); (try have : w3.heap.size + 1 + 1 < w6.heap.size := by omega); (try have : w3.heap.size + 1 + 1 + 1 < w6.heap.size := by omega); (try have : w4.heap.size < w6.heap.size := by omega); (try have : w4.heap.size + 1 < w6.heap.size := by omega); (try have : w4.heap.size + 1 + 1 < w6.heap.size := by omega); (try have : w4.heap.size + 1 + 1 + 1 < w6.heap.size := by omega); (try have : w5.heap.size < w6.heap.size := by omega); (try have : w5.heap.size + 1 < w6.heap.size := by omega); (try have : w5.heap.size + 1 + 1 < w6.heap.size := by omega); (try have : w5.heap.size + 1 + 1 + 1 < w6.heap.size := by omega); (try have : g < w6.heap.size := by omega); (try have : ga < w6.heap.size := by omega); (try have : gb < w6.heap.size := by omega); (try have : gc < w6.heap.size := by omega)) | fail)
    have bx3 : w6.heap[w.heap.size + 1]? = some (.cells #[.int .i64 0, .int .u64 0] 95) := (hb6.block _ (by simp; omega)).trans ((Below.heap_alloc w5 _ _ (by omega)).trans ((hb5.block _ (by omega)).trans ((hb4.block _ (by omega)).trans bx2)))
    have B6 : Below w.heap.size w w6 := (by repeat (first | (with_reducible exact Below.refl _ _) | (with_reducible assumption) | (with_reducible refine Below.drew ?_) | (with_reducible refine Below.alloc ?_ ?_ _) | (with_reducible refine Below.setCell ?_ ?_ _) | (with_reducible refine Below.trans ?_ (Below.mono hb ?_)) | (with_reducible refine Below.trans ?_ (Below.mono hb1 ?_)) | (with_reducible refine Below.trans ?_ (Below.mono hb2 ?_)) | (with_reducible refine Below.trans ?_ (Below.mono hb3 ?_)) | (with_reducible refine Below.trans ?_ (Below.mono hb4 ?_)) | (with_reducible refine Below.trans ?_ (Below.mono hb5 ?_)) | (with_reducible refine Below.trans ?_ (Below.mono hb6 ?_)) | (with_reducible refine Below.trans ?_ (Below.mono hb7 ?_)) | (with_reducible refine Below.trans ?_ (Below.mono hb8 ?_)) | (with_reducible refine Below.trans ?_ (Below.mono hb9 ?_)) | (focus (first | omega | (simp; done) | (simp; omega))) | exact hB))
    refine at_world fun W0 hW0 => ?_
    have c1 : W0.cell? ⟨w1.heap.size, 0, none⟩ = some (.int .i64 (hi q)) := by subst hW0; simp [*, go_sem]
    have c2 : W0.cell? ⟨w1.heap.size, 1, none⟩ = some (.int .u64 (lo q)) := by subst hW0; simp [*, go_sem]
    have k1 : w1.heap.size < W0.heap.size := by subst hW0; assumption
    have k2 : ¬ w1.heap.size = w.heap.size + 1 := by omega
    have BX0 : Bx (w.heap.size + 1) 2 W0 W0 := by subst hW0; exact Bx.refl bx3 (by simp)
    have k3 : w.heap.size + 1 < W0.heap.size := BX0.lt
    have B0 : Below w.heap.size w W0 := by subst hW0; exact B6
    clear hW0 bx3 B6 hc4 hc5 hc6 hf4 hf5 hf6 d1 d2 d3 d4 e1 e2 e3 e4
    go_region_held3 (fun w' => Bx (w.heap.size + 1) 2 W0 w' ∧ (∀ b o, b < W0.heap.size → b ≠ (w.heap.size + 1) → w'.cell? ⟨b, o, none⟩ = W0.cell? ⟨b, o, none⟩) ∧ (∀ i, i < 2 → w'.cell? ⟨(w.heap.size + 1), i, none⟩ = some (cv w' (w.heap.size + 1) i)) ∧ (∀ i, w'.frozen? ⟨(w.heap.size + 1), i, none⟩ = false)) ((first | exact sx_of (Bx.call (by assumption) hb1) | exact sx_of (Bx.call (by assumption) hb2) | exact sx_of (Bx.call (by assumption) hb3) | exact sx_of (Bx.call (by assumption) hb4) | exact sx_of (Bx.call (by assumption) hb5) | exact sx_of (Bx.call (by assumption) hb6) | exact sx_of (Bx.call (by assumption) hb7) | exact sx_of (Bx.call (by assumption) hb8) | exact sx_of (Bx.call (by assumption) hb9) | exact sx_of hs1 | exact sx_of hs2 | exact sx_of hs3 | exact sx_of hs4 | exact sx_of hs5 | exact sx_of hs6 | exact sx_of hs7 | exact sx_of hs8 | exact sx_of hs9 | exact sx_of (by repeat (first | assumption | exact BX0 | exact hs1 | exact hs2 | exact hs3 | exact hs4 | exact hs5 | exact hs6 | exact hs7 | exact hs8 | exact hs9 | refine Bx.drew ?_ | refine Bx.alloc ?_ _ | refine Bx.set ?_ (.inl (by simp; done)) _ | refine Bx.set ?_ (.inr (by first | omega | (simp; done) | (simp; omega))) _))))
      (first
        | (go_at_call 69; refine (O1.out _).mono ?_; rintro e w7 ⟨rfl, hb7⟩; have hs7 := Bx.call (And.left (by assumption)) hb7; have hz7 := hs7.size; obtain ⟨hc7, hf7, hy7⟩ := bcell hb7; (try simp at hy7); (try have : W0.heap.size < w7.heap.size := by omega); (try have : w1.heap.size < w7.heap.size := by omega); (try have : w2.heap.size < w7.heap.size := by omega); (try have : w3.heap.size < w7.heap.size := by omega); (try have : w4.heap.size < w7.heap.size := by omega); (try have : w5.heap.size < w7.heap.size := by omega); (try have : w6.heap.size < w7.heap.size := by omega))
        | (go_at_call 66; refine (R6.out _).mono ?_; rintro e w8 ⟨rfl, hb8⟩; have hs8 := Bx.call (And.left (by assumption)) hb8; have hz8 := hs8.size; obtain ⟨hc8, hf8, hy8⟩ := bcell hb8; (try simp at hy8); (try have : W0.heap.size < w8.heap.size := by omega); (try have : w1.heap.size < w8.heap.size := by omega); (try have : w2.heap.size < w8.heap.size := by omega); (try have : w3.heap.size < w8.heap.size := by omega); (try have : w4.heap.size < w8.heap.size := by omega); (try have : w5.heap.size < w8.heap.size := by omega); (try have : w6.heap.size < w8.heap.size := by omega); (try have : w7.heap.size < w8.heap.size := by omega)))
    all_goals
      rename_i hHl
      clear hHl
      have q1 := hs8.own 0 (by omega)
      have q2 := hs8.own 1 (by omega)
      go_wp2
      exact bodyPost_ret (v := .agg #[.int .i64 (hi (q + 1)), .int .u64 (lo (q + 1))]) (by simp [*, results, Try.results71, go_sem]) rfl ⟨rfl, B0.trans ((Bx.set (Bx.set hs8 (.inl rfl) _) (.inl rfl) _).below (by omega) (by omega))⟩
  by_cases t2 : r = h
  · have ec : cmpI r h = 0 := by unfold cmpI; rw [if_neg (by omega), if_pos t2]
    rw [ec] at R5
    clear ec
    by_cases t3 : q % 2 = 1
    · obtain rfl : R = q + 1 := by rw [hrnd, if_pos (.inr ⟨t2, t3⟩)]
      have t4 : (bits .and .u64 (lo q) 1 == 1) = true := by rw [and_one _ (lo_u q), pb, t3]; rfl
      clear hrnd t1 t2 t3 pb
      go_enter Try.func71, Try.ntmps71
      go_wp2_with (go_at_call 97; refine (R1.out _).mono ?_; rintro e w1 ⟨rfl, hb1⟩; obtain ⟨hc1, hf1, hz1⟩ := bcell hb1; (try simp at hz1); (try have : w.heap.size < w1.heap.size := by omega); (try have : w.heap.size + 1 < w1.heap.size := by omega); (try have : w.heap.size + 1 + 1 < w1.heap.size := by omega); (try have : w.heap.size + 1 + 1 + 1 < w1.heap.size := by omega); (try have : g < w1.heap.size := by omega); (try have : ga < w1.heap.size := by omega); (try have : gb < w1.heap.size := by omega); (try have : gc < w1.heap.size := by omega))
      have f0 : w.heap.size < w1.heap.size := by omega
      have bx0 : w1.heap[w.heap.size + 1]? = some (.cells #[.int .i64 0, .int .u64 0] 95) := by
        rw [hb1.block _ (by simp)]
        have := heap_alloc_new (w.alloc (.cells #[.int .i64 (hi a), .int .u64 (lo a)] 95)) (.cells #[.int .i64 0, .int .u64 0] 95)
        simpa using this
      refine at_world fun W0 hW0 => ?_
      have c1 : W0.cell? ⟨w.heap.size, 0, none⟩ = some (.int .i64 (hi a)) := by subst hW0; simp [*, go_sem, World.cell?_alloc_past]
      have c2 : W0.cell? ⟨w.heap.size, 1, none⟩ = some (.int .u64 (lo a)) := by subst hW0; simp [*, go_sem, World.cell?_alloc_past]
      have c3 : W0.cell? ⟨w1.heap.size, 0, none⟩ = some (.int .i64 (hi q)) := by subst hW0; simp [go_sem]
      have c4 : W0.cell? ⟨w1.heap.size, 1, none⟩ = some (.int .u64 (lo q)) := by subst hW0; simp [go_sem]
      have bx1 : W0.heap[w.heap.size + 1]? = some (.cells #[.int .i64 0, .int .u64 0] 95) := by
        subst hW0; exact (Below.heap_alloc w1 _ _ (by omega)).trans bx0
      have k1 : w.heap.size < W0.heap.size := by subst hW0; simp; omega
      have k2 : w1.heap.size < W0.heap.size := by subst hW0; simp
      have BW : Below w.heap.size w W0 := by subst hW0; exact (by repeat (first | (with_reducible exact Below.refl _ _) | (with_reducible assumption) | (with_reducible refine Below.drew ?_) | (with_reducible refine Below.alloc ?_ ?_ _) | (with_reducible refine Below.setCell ?_ ?_ _) | (with_reducible refine Below.trans ?_ (Below.mono hb ?_)) | (with_reducible refine Below.trans ?_ (Below.mono hb1 ?_)) | (with_reducible refine Below.trans ?_ (Below.mono hb2 ?_)) | (with_reducible refine Below.trans ?_ (Below.mono hb3 ?_)) | (with_reducible refine Below.trans ?_ (Below.mono hb4 ?_)) | (with_reducible refine Below.trans ?_ (Below.mono hb5 ?_)) | (with_reducible refine Below.trans ?_ (Below.mono hb6 ?_)) | (with_reducible refine Below.trans ?_ (Below.mono hb7 ?_)) | (with_reducible refine Below.trans ?_ (Below.mono hb8 ?_)) | (with_reducible refine Below.trans ?_ (Below.mono hb9 ?_)) | (focus (first | omega | (simp; done) | (simp; omega))) | exact hB))
      clear hW0 bx0 hc1 hf1
      go_cut [6] (fun v w' => ∃ g : Nat, v = .pointer (some ⟨g, 0, none⟩) ∧ W0.heap.size ≤ g ∧ g < w'.heap.size ∧ Below W0.heap.size W0 w' ∧ w'.cell? ⟨g, 0, none⟩ = some (.int .i64 (hi r)) ∧ w'.cell? ⟨g, 1, none⟩ = some (.int .u64 (lo r)))
      case first =>
        go_region_held3 (fun w' => Below W0.heap.size W0 w' ∧ ∀ b o, b < W0.heap.size → w'.cell? ⟨b, o, none⟩ = W0.cell? ⟨b, o, none⟩) ((first | (refine sb_call ?_ hb; assumption) | exact sb_of hs | exact sb_of (Below.drew hs) | (refine sb_call ?_ hb1; assumption) | (refine sb_call ?_ hb2; assumption) | (refine sb_call ?_ hb3; assumption) | (refine sb_call ?_ hb4; assumption) | (refine sb_call ?_ hb5; assumption) | (refine sb_call ?_ hb6; assumption) | (refine sb_call ?_ hb7; assumption) | (refine sb_call ?_ hb8; assumption) | (refine sb_call ?_ hb9; assumption) | exact sb_of (by repeat (first | (with_reducible exact Below.refl _ _) | (with_reducible assumption) | (with_reducible refine Below.drew ?_) | (with_reducible refine Below.alloc ?_ ?_ _) | (with_reducible refine Below.setCell ?_ ?_ _) | (with_reducible refine Below.trans ?_ (Below.mono hb ?_)) | (with_reducible refine Below.trans ?_ (Below.mono hb1 ?_)) | (with_reducible refine Below.trans ?_ (Below.mono hb2 ?_)) | (with_reducible refine Below.trans ?_ (Below.mono hb3 ?_)) | (with_reducible refine Below.trans ?_ (Below.mono hb4 ?_)) | (with_reducible refine Below.trans ?_ (Below.mono hb5 ?_)) | (with_reducible refine Below.trans ?_ (Below.mono hb6 ?_)) | (with_reducible refine Below.trans ?_ (Below.mono hb7 ?_)) | (with_reducible refine Below.trans ?_ (Below.mono hb8 ?_)) | (with_reducible refine Below.trans ?_ (Below.mono hb9 ?_)) | (focus (first | omega | (simp; done) | (simp; omega))) | exact hB))))
          (first
            | (go_at_call 68; refine (R2.out _).mono ?_; rintro e w2 ⟨rfl, hb2⟩; have hs2 := sb_below (by assumption) hb2; have hz2 := hs2.size; obtain ⟨hc2, hf2, hy2⟩ := bcell hb2; (try simp at hy2); (try have : W0.heap.size < w2.heap.size := by omega); (try have : w1.heap.size < w2.heap.size := by omega))
            | (go_at_call 98; refine (R3.out _).mono ?_; rintro e w3 ⟨rfl, hb3⟩; have hs3 := sb_below (by assumption) hb3; have hz3 := hs3.size; obtain ⟨hc3, hf3, hy3⟩ := bcell hb3; (try simp at hy3); (try have : W0.heap.size < w3.heap.size := by omega); (try have : w1.heap.size < w3.heap.size := by omega); (try have : w2.heap.size < w3.heap.size := by omega)))
        all_goals
          go_wp2_with fail
          go_meet
          case rel => exact ⟨_, rfl, (by first | omega | (simp; done) | (simp; omega)), (by first | omega | (simp; done) | (simp; omega)), (by assumption : _ ∧ _).1, by simp [*, go_sem], by simp [*, go_sem]⟩
      case rest =>
      obtain ⟨g, rfl, g1, g2, hB, d1, d2⟩ := hcut
      have d3 : wc.cell? ⟨w1.heap.size, 0, none⟩ = some (.int .i64 (hi q)) := by rw [hB.cell (p := ⟨w1.heap.size, 0, none⟩) k2]; exact c3
      have d4 : wc.cell? ⟨w1.heap.size, 1, none⟩ = some (.int .u64 (lo q)) := by rw [hB.cell (p := ⟨w1.heap.size, 1, none⟩) k2]; exact c4
      have bx2 : wc.heap[w.heap.size + 1]? = some (.cells #[.int .i64 0, .int .u64 0] 95) := (hB.block _ (by omega)).trans bx1
      have k3 : w1.heap.size < wc.heap.size := by omega
      have BC : Below w.heap.size w wc := BW.trans (hB.mono (by omega))
      have e1 : wc.cell? ⟨w.heap.size + 1, 0, none⟩ = some (.int .i64 0) := by simp [World.cell?, bx2]
      have e2 : wc.cell? ⟨w.heap.size + 1, 1, none⟩ = some (.int .u64 0) := by simp [World.cell?, bx2]
      have e3 : wc.frozen? ⟨w.heap.size + 1, 0, none⟩ = false := by simp [World.frozen?, bx2]
      have e4 : wc.frozen? ⟨w.heap.size + 1, 1, none⟩ = false := by simp [World.frozen?, bx2]
      have k4 : w.heap.size + 1 < wc.heap.size := by omega
      clear c1 c2 c3 c4 k1 k2 BW g1 hB bx1
      go_wp2_with (first | (go_at_call 69; refine (O1.out _).mono ?_; rintro e w4 ⟨rfl, hb4⟩; obtain ⟨hc4, hf4, hz4⟩ := bcell hb4; (try simp at hz4); (try have : w.heap.size < w4.heap.size := by omega); (try have : w.heap.size + 1 < w4.heap.size := by omega); (try have : w.heap.size + 1 + 1 < w4.heap.size := by omega); (try have : w.heap.size + 1 + 1 + 1 < w4.heap.size := by omega); (try have : w1.heap.size < w4.heap.size := by omega); (try have : w1.heap.size + 1 < w4.heap.size := by omega); (try have : w1.heap.size + 1 + 1 < w4.heap.size := by omega); (try have : w1.heap.size + 1 + 1 + 1 < w4.heap.size := by omega); (try have : w2.heap.size < w4.heap.size := by omega); (try have : w2.heap.size + 1 < w4.heap.size := by omega); (try have : w2.heap.size + 1 + 1 < w4.heap.size := by omega); (try have : w2.heap.size + 1 + 1 + 1 < w4.heap.size := by omega); (try have : w3.heap.size < w4.heap.size := by omega); (try have : w3.heap.size + 1 < w4.heap.size := by omega); (try have : w3.heap.size + 1 + 1 < w4.heap.size := by omega); (try have : w3.heap.size + 1 + 1 + 1 < w4.heap.size := by omega); (try have : g < w4.heap.size := by omega); (try have : ga < w4.heap.size := by omega); (try have : gb < w4.heap.size := by omega); (try have : gc < w4.heap.size := by omega)) | (go_at_call 68; refine (R4.out _).mono ?_; rintro e w5 ⟨rfl, hb5⟩; obtain ⟨hc5, hf5, hz5⟩ := bcell hb5; (try simp at hz5); (try have : w.heap.size < w5.heap.size := by omega); (try have : w.heap.size + 1 < w5.heap.size := by omega); (try have : w.heap.size + 1 + 1 < w5.heap.size := by omega); (try have : w.heap.size + 1 + 1 + 1 < w5.heap.size := by omega); (try have : w1.heap.size < w5.heap.size := by omega); (try have : w1.heap.size + 1 < w5.heap.size := by omega); (try have : w1.heap.size + 1 + 1 < w5.heap.size := by omega); (try have : w1.heap.size + 1 + 1 + 1 < w5.heap.size := by omega); (try have : w2.heap.size < w5.heap.size := by omega); (try have : w2.heap.size + 1 < w5.heap.size := by omega); (try have : w2.heap.size + 1 + 1 < w5.heap.size := by omega); (try have : w2.heap.size + 1 + 1 + 1 < w5.heap.size := by omega); (try have : w3.heap.size < w5.heap.size := by omega); (try have : w3.heap.size + 1 < w5.heap.size := by omega); (try have : w3.heap.size + 1 + 1 < w5.heap.size := by omega); (try have : w3.heap.size + 1 + 1 + 1 < w5.heap.size := by omega); (try have : w4.heap.size < w5.heap.size := by omega); (try have : w4.heap.size + 1 < w5.heap.size := by omega); (try have : w4.heap.size + 1 + 1 < w5.heap.size := by omega); (try have : w4.heap.size + 1 + 1 + 1 < w5.heap.size := by omega); (try have : g < w5.heap.size := by omega); (try have : ga < w5.heap.size := by omega); (try have : gb < w5.heap.size := by omega); (try have : gc < w5.heap.size := by omega)) | (go_at_call 99; refine (R5.out _).mono ?_; rintro e w6 ⟨rfl, hb6⟩; obtain ⟨hc6, hf6, hz6⟩ := bcell hb6; (try simp at hz6); (try have : w.heap.size < w6.heap.size := by omega); (try have : w.heap.size + 1 < w6.heap.size := by omega); (try have : w.heap.size + 1 + 1 < w6.heap.size := by omega); (try have : w.heap.size + 1 + 1 + 1 < w6.heap.size := by omega); (try have : w1.heap.size < w6.heap.size := by omega); (try have : w1.heap.size + 1 < w6.heap.size := by omega); (try have : w1.heap.size + 1 + 1 < w6.heap.size := by omega); (try have : w1.heap.size + 1 + 1 + 1 < w6.heap.size := by omega); (try have : w2.heap.size < w6.heap.size := by omega); (try have : w2.heap.size + 1 < w6.heap.size := by omega); (try have : w2.heap.size + 1 + 1 < w6.heap.size := by omega); (try have : w2.heap.size + 1 + 1 + 1 < w6.heap.size := by omega); (try have : w3.heap.size < w6.heap.size := by omega); (try have : w3.heap.size + 1 < w6.heap.size := by omega); (try have : w3.heap.size + 1 + 1 < w6.heap.size := by omega); (try have : w3.heap.size + 1 + 1 + 1 < w6.heap.size := by omega); (try have : w4.heap.size < w6.heap.size := by omega); (try have : w4.heap.size + 1 < w6.heap.size := by omega); (try have : w4.heap.size + 1 + 1 < w6.heap.size := by omega); (try have : w4.heap.size + 1 + 1 + 1 < w6.heap.size := by omega); (try have : w5.heap.size < w6.heap.size := by omega); (try have : w5.heap.size + 1 < w6.heap.size := by omega); (try have : w5.heap.size + 1 + 1 < w6.heap.size := by omega); (try have : w5.heap.size + 1 + 1 + 1 < w6.heap.size := by omega); (try have : g < w6.heap.size := by omega); (try have : ga < w6.heap.size := by omega); (try have : gb < w6.heap.size := by omega); (try have : gc < w6.heap.size := by omega)) | fail)
      have bx3 : w6.heap[w.heap.size + 1]? = some (.cells #[.int .i64 0, .int .u64 0] 95) := (hb6.block _ (by simp; omega)).trans ((Below.heap_alloc w5 _ _ (by omega)).trans ((hb5.block _ (by omega)).trans ((hb4.block _ (by omega)).trans bx2)))
      have B6 : Below w.heap.size w w6 := (by repeat (first | (with_reducible exact Below.refl _ _) | (with_reducible assumption) | (with_reducible refine Below.drew ?_) | (with_reducible refine Below.alloc ?_ ?_ _) | (with_reducible refine Below.setCell ?_ ?_ _) | (with_reducible refine Below.trans ?_ (Below.mono hb ?_)) | (with_reducible refine Below.trans ?_ (Below.mono hb1 ?_)) | (with_reducible refine Below.trans ?_ (Below.mono hb2 ?_)) | (with_reducible refine Below.trans ?_ (Below.mono hb3 ?_)) | (with_reducible refine Below.trans ?_ (Below.mono hb4 ?_)) | (with_reducible refine Below.trans ?_ (Below.mono hb5 ?_)) | (with_reducible refine Below.trans ?_ (Below.mono hb6 ?_)) | (with_reducible refine Below.trans ?_ (Below.mono hb7 ?_)) | (with_reducible refine Below.trans ?_ (Below.mono hb8 ?_)) | (with_reducible refine Below.trans ?_ (Below.mono hb9 ?_)) | (focus (first | omega | (simp; done) | (simp; omega))) | exact hB))
      refine at_world fun W0 hW0 => ?_
      have c1 : W0.cell? ⟨w1.heap.size, 0, none⟩ = some (.int .i64 (hi q)) := by subst hW0; simp [*, go_sem]
      have c2 : W0.cell? ⟨w1.heap.size, 1, none⟩ = some (.int .u64 (lo q)) := by subst hW0; simp [*, go_sem]
      have k1 : w1.heap.size < W0.heap.size := by subst hW0; assumption
      have k2 : ¬ w1.heap.size = w.heap.size + 1 := by omega
      have BX0 : Bx (w.heap.size + 1) 2 W0 W0 := by subst hW0; exact Bx.refl bx3 (by simp)
      have k3 : w.heap.size + 1 < W0.heap.size := BX0.lt
      have B0 : Below w.heap.size w W0 := by subst hW0; exact B6
      clear hW0 bx3 B6 hc4 hc5 hc6 hf4 hf5 hf6 d1 d2 d3 d4 e1 e2 e3 e4
      go_region_held3 (fun w' => Bx (w.heap.size + 1) 2 W0 w' ∧ (∀ b o, b < W0.heap.size → b ≠ (w.heap.size + 1) → w'.cell? ⟨b, o, none⟩ = W0.cell? ⟨b, o, none⟩) ∧ (∀ i, i < 2 → w'.cell? ⟨(w.heap.size + 1), i, none⟩ = some (cv w' (w.heap.size + 1) i)) ∧ (∀ i, w'.frozen? ⟨(w.heap.size + 1), i, none⟩ = false)) ((first | exact sx_of (Bx.call (by assumption) hb1) | exact sx_of (Bx.call (by assumption) hb2) | exact sx_of (Bx.call (by assumption) hb3) | exact sx_of (Bx.call (by assumption) hb4) | exact sx_of (Bx.call (by assumption) hb5) | exact sx_of (Bx.call (by assumption) hb6) | exact sx_of (Bx.call (by assumption) hb7) | exact sx_of (Bx.call (by assumption) hb8) | exact sx_of (Bx.call (by assumption) hb9) | exact sx_of hs1 | exact sx_of hs2 | exact sx_of hs3 | exact sx_of hs4 | exact sx_of hs5 | exact sx_of hs6 | exact sx_of hs7 | exact sx_of hs8 | exact sx_of hs9 | exact sx_of (by repeat (first | assumption | exact BX0 | exact hs1 | exact hs2 | exact hs3 | exact hs4 | exact hs5 | exact hs6 | exact hs7 | exact hs8 | exact hs9 | refine Bx.drew ?_ | refine Bx.alloc ?_ _ | refine Bx.set ?_ (.inl (by simp; done)) _ | refine Bx.set ?_ (.inr (by first | omega | (simp; done) | (simp; omega))) _))))
        (first
          | (go_at_call 69; refine (O1.out _).mono ?_; rintro e w7 ⟨rfl, hb7⟩; have hs7 := Bx.call (And.left (by assumption)) hb7; have hz7 := hs7.size; obtain ⟨hc7, hf7, hy7⟩ := bcell hb7; (try simp at hy7); (try have : W0.heap.size < w7.heap.size := by omega); (try have : w1.heap.size < w7.heap.size := by omega); (try have : w2.heap.size < w7.heap.size := by omega); (try have : w3.heap.size < w7.heap.size := by omega); (try have : w4.heap.size < w7.heap.size := by omega); (try have : w5.heap.size < w7.heap.size := by omega); (try have : w6.heap.size < w7.heap.size := by omega))
          | (go_at_call 66; refine (R6.out _).mono ?_; rintro e w8 ⟨rfl, hb8⟩; have hs8 := Bx.call (And.left (by assumption)) hb8; have hz8 := hs8.size; obtain ⟨hc8, hf8, hy8⟩ := bcell hb8; (try simp at hy8); (try have : W0.heap.size < w8.heap.size := by omega); (try have : w1.heap.size < w8.heap.size := by omega); (try have : w2.heap.size < w8.heap.size := by omega); (try have : w3.heap.size < w8.heap.size := by omega); (try have : w4.heap.size < w8.heap.size := by omega); (try have : w5.heap.size < w8.heap.size := by omega); (try have : w6.heap.size < w8.heap.size := by omega); (try have : w7.heap.size < w8.heap.size := by omega)))
      all_goals
        rename_i hHl
        clear hHl
        have q1 := hs8.own 0 (by omega)
        have q2 := hs8.own 1 (by omega)
        go_wp2
        exact bodyPost_ret (v := .agg #[.int .i64 (hi (q + 1)), .int .u64 (lo (q + 1))]) (by simp [*, results, Try.results71, go_sem]) rfl ⟨rfl, B0.trans ((Bx.set (Bx.set hs8 (.inl rfl) _) (.inl rfl) _).below (by omega) (by omega))⟩
    · obtain rfl : R = q := by rw [hrnd, if_neg (by omega)]
      have t4 : (bits .and .u64 (lo R) 1 == 1) = false := by rw [and_one _ (lo_u R), pb]; simpa using t3
      clear hrnd t1 t2 t3 pb
      obtain ⟨q, hqq⟩ : ∃ q, q = R := ⟨_, rfl⟩
      subst hqq
      go_enter Try.func71, Try.ntmps71
      go_wp2_with (go_at_call 97; refine (R1.out _).mono ?_; rintro e w1 ⟨rfl, hb1⟩; obtain ⟨hc1, hf1, hz1⟩ := bcell hb1; (try simp at hz1); (try have : w.heap.size < w1.heap.size := by omega); (try have : w.heap.size + 1 < w1.heap.size := by omega); (try have : w.heap.size + 1 + 1 < w1.heap.size := by omega); (try have : w.heap.size + 1 + 1 + 1 < w1.heap.size := by omega); (try have : g < w1.heap.size := by omega); (try have : ga < w1.heap.size := by omega); (try have : gb < w1.heap.size := by omega); (try have : gc < w1.heap.size := by omega))
      have f0 : w.heap.size < w1.heap.size := by omega
      have bx0 : w1.heap[w.heap.size + 1]? = some (.cells #[.int .i64 0, .int .u64 0] 95) := by
        rw [hb1.block _ (by simp)]
        have := heap_alloc_new (w.alloc (.cells #[.int .i64 (hi a), .int .u64 (lo a)] 95)) (.cells #[.int .i64 0, .int .u64 0] 95)
        simpa using this
      refine at_world fun W0 hW0 => ?_
      have c1 : W0.cell? ⟨w.heap.size, 0, none⟩ = some (.int .i64 (hi a)) := by subst hW0; simp [*, go_sem, World.cell?_alloc_past]
      have c2 : W0.cell? ⟨w.heap.size, 1, none⟩ = some (.int .u64 (lo a)) := by subst hW0; simp [*, go_sem, World.cell?_alloc_past]
      have c3 : W0.cell? ⟨w1.heap.size, 0, none⟩ = some (.int .i64 (hi q)) := by subst hW0; simp [go_sem]
      have c4 : W0.cell? ⟨w1.heap.size, 1, none⟩ = some (.int .u64 (lo q)) := by subst hW0; simp [go_sem]
      have bx1 : W0.heap[w.heap.size + 1]? = some (.cells #[.int .i64 0, .int .u64 0] 95) := by
        subst hW0; exact (Below.heap_alloc w1 _ _ (by omega)).trans bx0
      have k1 : w.heap.size < W0.heap.size := by subst hW0; simp; omega
      have k2 : w1.heap.size < W0.heap.size := by subst hW0; simp
      have BW : Below w.heap.size w W0 := by subst hW0; exact (by repeat (first | (with_reducible exact Below.refl _ _) | (with_reducible assumption) | (with_reducible refine Below.drew ?_) | (with_reducible refine Below.alloc ?_ ?_ _) | (with_reducible refine Below.setCell ?_ ?_ _) | (with_reducible refine Below.trans ?_ (Below.mono hb ?_)) | (with_reducible refine Below.trans ?_ (Below.mono hb1 ?_)) | (with_reducible refine Below.trans ?_ (Below.mono hb2 ?_)) | (with_reducible refine Below.trans ?_ (Below.mono hb3 ?_)) | (with_reducible refine Below.trans ?_ (Below.mono hb4 ?_)) | (with_reducible refine Below.trans ?_ (Below.mono hb5 ?_)) | (with_reducible refine Below.trans ?_ (Below.mono hb6 ?_)) | (with_reducible refine Below.trans ?_ (Below.mono hb7 ?_)) | (with_reducible refine Below.trans ?_ (Below.mono hb8 ?_)) | (with_reducible refine Below.trans ?_ (Below.mono hb9 ?_)) | (focus (first | omega | (simp; done) | (simp; omega))) | exact hB))
      clear hW0 bx0 hc1 hf1
      go_cut [6] (fun v w' => ∃ g : Nat, v = .pointer (some ⟨g, 0, none⟩) ∧ W0.heap.size ≤ g ∧ g < w'.heap.size ∧ Below W0.heap.size W0 w' ∧ w'.cell? ⟨g, 0, none⟩ = some (.int .i64 (hi r)) ∧ w'.cell? ⟨g, 1, none⟩ = some (.int .u64 (lo r)))
      case first =>
        go_region_held3 (fun w' => Below W0.heap.size W0 w' ∧ ∀ b o, b < W0.heap.size → w'.cell? ⟨b, o, none⟩ = W0.cell? ⟨b, o, none⟩) ((first | (refine sb_call ?_ hb; assumption) | exact sb_of hs | exact sb_of (Below.drew hs) | (refine sb_call ?_ hb1; assumption) | (refine sb_call ?_ hb2; assumption) | (refine sb_call ?_ hb3; assumption) | (refine sb_call ?_ hb4; assumption) | (refine sb_call ?_ hb5; assumption) | (refine sb_call ?_ hb6; assumption) | (refine sb_call ?_ hb7; assumption) | (refine sb_call ?_ hb8; assumption) | (refine sb_call ?_ hb9; assumption) | exact sb_of (by repeat (first | (with_reducible exact Below.refl _ _) | (with_reducible assumption) | (with_reducible refine Below.drew ?_) | (with_reducible refine Below.alloc ?_ ?_ _) | (with_reducible refine Below.setCell ?_ ?_ _) | (with_reducible refine Below.trans ?_ (Below.mono hb ?_)) | (with_reducible refine Below.trans ?_ (Below.mono hb1 ?_)) | (with_reducible refine Below.trans ?_ (Below.mono hb2 ?_)) | (with_reducible refine Below.trans ?_ (Below.mono hb3 ?_)) | (with_reducible refine Below.trans ?_ (Below.mono hb4 ?_)) | (with_reducible refine Below.trans ?_ (Below.mono hb5 ?_)) | (with_reducible refine Below.trans ?_ (Below.mono hb6 ?_)) | (with_reducible refine Below.trans ?_ (Below.mono hb7 ?_)) | (with_reducible refine Below.trans ?_ (Below.mono hb8 ?_)) | (with_reducible refine Below.trans ?_ (Below.mono hb9 ?_)) | (focus (first | omega | (simp; done) | (simp; omega))) | exact hB))))
          (first
            | (go_at_call 68; refine (R2.out _).mono ?_; rintro e w2 ⟨rfl, hb2⟩; have hs2 := sb_below (by assumption) hb2; have hz2 := hs2.size; obtain ⟨hc2, hf2, hy2⟩ := bcell hb2; (try simp at hy2); (try have : W0.heap.size < w2.heap.size := by omega); (try have : w1.heap.size < w2.heap.size := by omega))
            | (go_at_call 98; refine (R3.out _).mono ?_; rintro e w3 ⟨rfl, hb3⟩; have hs3 := sb_below (by assumption) hb3; have hz3 := hs3.size; obtain ⟨hc3, hf3, hy3⟩ := bcell hb3; (try simp at hy3); (try have : W0.heap.size < w3.heap.size := by omega); (try have : w1.heap.size < w3.heap.size := by omega); (try have : w2.heap.size < w3.heap.size := by omega)))
        all_goals
          go_wp2_with fail
          go_meet
          case rel => exact ⟨_, rfl, (by first | omega | (simp; done) | (simp; omega)), (by first | omega | (simp; done) | (simp; omega)), (by assumption : _ ∧ _).1, by simp [*, go_sem], by simp [*, go_sem]⟩
      case rest =>
      obtain ⟨g, rfl, g1, g2, hB, d1, d2⟩ := hcut
      have d3 : wc.cell? ⟨w1.heap.size, 0, none⟩ = some (.int .i64 (hi q)) := by rw [hB.cell (p := ⟨w1.heap.size, 0, none⟩) k2]; exact c3
      have d4 : wc.cell? ⟨w1.heap.size, 1, none⟩ = some (.int .u64 (lo q)) := by rw [hB.cell (p := ⟨w1.heap.size, 1, none⟩) k2]; exact c4
      have bx2 : wc.heap[w.heap.size + 1]? = some (.cells #[.int .i64 0, .int .u64 0] 95) := (hB.block _ (by omega)).trans bx1
      have k3 : w1.heap.size < wc.heap.size := by omega
      have BC : Below w.heap.size w wc := BW.trans (hB.mono (by omega))
      have e1 : wc.cell? ⟨w.heap.size + 1, 0, none⟩ = some (.int .i64 0) := by simp [World.cell?, bx2]
      have e2 : wc.cell? ⟨w.heap.size + 1, 1, none⟩ = some (.int .u64 0) := by simp [World.cell?, bx2]
      have e3 : wc.frozen? ⟨w.heap.size + 1, 0, none⟩ = false := by simp [World.frozen?, bx2]
      have e4 : wc.frozen? ⟨w.heap.size + 1, 1, none⟩ = false := by simp [World.frozen?, bx2]
      have k4 : w.heap.size + 1 < wc.heap.size := by omega
      clear c1 c2 c3 c4 k1 k2 BW g1 hB bx1
      go_wp2_with (first | (go_at_call 69; refine (O1.out _).mono ?_; rintro e w4 ⟨rfl, hb4⟩; obtain ⟨hc4, hf4, hz4⟩ := bcell hb4; (try simp at hz4); (try have : w.heap.size < w4.heap.size := by omega); (try have : w.heap.size + 1 < w4.heap.size := by omega); (try have : w.heap.size + 1 + 1 < w4.heap.size := by omega); (try have : w.heap.size + 1 + 1 + 1 < w4.heap.size := by omega); (try have : w1.heap.size < w4.heap.size := by omega); (try have : w1.heap.size + 1 < w4.heap.size := by omega); (try have : w1.heap.size + 1 + 1 < w4.heap.size := by omega); (try have : w1.heap.size + 1 + 1 + 1 < w4.heap.size := by omega); (try have : w2.heap.size < w4.heap.size := by omega); (try have : w2.heap.size + 1 < w4.heap.size := by omega); (try have : w2.heap.size + 1 + 1 < w4.heap.size := by omega); (try have : w2.heap.size + 1 + 1 + 1 < w4.heap.size := by omega); (try have : w3.heap.size < w4.heap.size := by omega); (try have : w3.heap.size + 1 < w4.heap.size := by omega); (try have : w3.heap.size + 1 + 1 < w4.heap.size := by omega); (try have : w3.heap.size + 1 + 1 + 1 < w4.heap.size := by omega); (try have : g < w4.heap.size := by omega); (try have : ga < w4.heap.size := by omega); (try have : gb < w4.heap.size := by omega); (try have : gc < w4.heap.size := by omega)) | (go_at_call 68; refine (R4.out _).mono ?_; rintro e w5 ⟨rfl, hb5⟩; obtain ⟨hc5, hf5, hz5⟩ := bcell hb5; (try simp at hz5); (try have : w.heap.size < w5.heap.size := by omega); (try have : w.heap.size + 1 < w5.heap.size := by omega); (try have : w.heap.size + 1 + 1 < w5.heap.size := by omega); (try have : w.heap.size + 1 + 1 + 1 < w5.heap.size := by omega); (try have : w1.heap.size < w5.heap.size := by omega); (try have : w1.heap.size + 1 < w5.heap.size := by omega); (try have : w1.heap.size + 1 + 1 < w5.heap.size := by omega); (try have : w1.heap.size + 1 + 1 + 1 < w5.heap.size := by omega); (try have : w2.heap.size < w5.heap.size := by omega); (try have : w2.heap.size + 1 < w5.heap.size := by omega); (try have : w2.heap.size + 1 + 1 < w5.heap.size := by omega); (try have : w2.heap.size + 1 + 1 + 1 < w5.heap.size := by omega); (try have : w3.heap.size < w5.heap.size := by omega); (try have : w3.heap.size + 1 < w5.heap.size := by omega); (try have : w3.heap.size + 1 + 1 < w5.heap.size := by omega); (try have : w3.heap.size + 1 + 1 + 1 < w5.heap.size := by omega); (try have : w4.heap.size < w5.heap.size := by omega); (try have : w4.heap.size + 1 < w5.heap.size := by omega); (try have : w4.heap.size + 1 + 1 < w5.heap.size := by omega); (try have : w4.heap.size + 1 + 1 + 1 < w5.heap.size := by omega); (try have : g < w5.heap.size := by omega); (try have : ga < w5.heap.size := by omega); (try have : gb < w5.heap.size := by omega); (try have : gc < w5.heap.size := by omega)) | (go_at_call 99; refine (R5.out _).mono ?_; rintro e w6 ⟨rfl, hb6⟩; obtain ⟨hc6, hf6, hz6⟩ := bcell hb6; (try simp at hz6); (try have : w.heap.size < w6.heap.size := by omega); (try have : w.heap.size + 1 < w6.heap.size := by omega); (try have : w.heap.size + 1 + 1 < w6.heap.size := by omega); (try have : w.heap.size + 1 + 1 + 1 < w6.heap.size := by omega); (try have : w1.heap.size < w6.heap.size := by omega); (try have : w1.heap.size + 1 < w6.heap.size := by omega); (try have : w1.heap.size + 1 + 1 < w6.heap.size := by omega); (try have : w1.heap.size + 1 + 1 + 1 < w6.heap.size := by omega); (try have : w2.heap.size < w6.heap.size := by omega); (try have : w2.heap.size + 1 < w6.heap.size := by omega); (try have : w2.heap.size + 1 + 1 < w6.heap.size := by omega); (try have : w2.heap.size + 1 + 1 + 1 < w6.heap.size := by omega); (try have : w3.heap.size < w6.heap.size := by omega); (try have : w3.heap.size + 1 < w6.heap.size := by omega); (try have : w3.heap.size + 1 + 1 < w6.heap.size := by omega); (try have : w3.heap.size + 1 + 1 + 1 < w6.heap.size := by omega); (try have : w4.heap.size < w6.heap.size := by omega); (try have : w4.heap.size + 1 < w6.heap.size := by omega); (try have : w4.heap.size + 1 + 1 < w6.heap.size := by omega); (try have : w4.heap.size + 1 + 1 + 1 < w6.heap.size := by omega); (try have : w5.heap.size < w6.heap.size := by omega); (try have : w5.heap.size + 1 < w6.heap.size := by omega); (try have : w5.heap.size + 1 + 1 < w6.heap.size := by omega); (try have : w5.heap.size + 1 + 1 + 1 < w6.heap.size := by omega); (try have : g < w6.heap.size := by omega); (try have : ga < w6.heap.size := by omega); (try have : gb < w6.heap.size := by omega); (try have : gc < w6.heap.size := by omega)) | fail)
      exact bodyPost_ret (v := .agg #[.int .i64 (hi q), .int .u64 (lo q)]) (by simp [*, results, Try.results71, go_sem]) rfl ⟨rfl, (by repeat (first | (with_reducible exact Below.refl _ _) | (with_reducible assumption) | (with_reducible refine Below.drew ?_) | (with_reducible refine Below.alloc ?_ ?_ _) | (with_reducible refine Below.setCell ?_ ?_ _) | (with_reducible refine Below.trans ?_ (Below.mono hb ?_)) | (with_reducible refine Below.trans ?_ (Below.mono hb1 ?_)) | (with_reducible refine Below.trans ?_ (Below.mono hb2 ?_)) | (with_reducible refine Below.trans ?_ (Below.mono hb3 ?_)) | (with_reducible refine Below.trans ?_ (Below.mono hb4 ?_)) | (with_reducible refine Below.trans ?_ (Below.mono hb5 ?_)) | (with_reducible refine Below.trans ?_ (Below.mono hb6 ?_)) | (with_reducible refine Below.trans ?_ (Below.mono hb7 ?_)) | (with_reducible refine Below.trans ?_ (Below.mono hb8 ?_)) | (with_reducible refine Below.trans ?_ (Below.mono hb9 ?_)) | (focus (first | omega | (simp; done) | (simp; omega))) | exact hB))⟩
  · obtain rfl : R = q := by rw [hrnd, if_neg (by omega)]
    have ec : cmpI r h = -1 := by unfold cmpI; rw [if_pos (by omega)]
    rw [ec] at R5
    clear hrnd t1 t2 pb ec
    obtain ⟨q, hqq⟩ : ∃ q, q = R := ⟨_, rfl⟩
    subst hqq
    go_enter Try.func71, Try.ntmps71
    go_wp2_with (go_at_call 97; refine (R1.out _).mono ?_; rintro e w1 ⟨rfl, hb1⟩; obtain ⟨hc1, hf1, hz1⟩ := bcell hb1; (try simp at hz1); (try have : w.heap.size < w1.heap.size := by omega); (try have : w.heap.size + 1 < w1.heap.size := by omega); (try have : w.heap.size + 1 + 1 < w1.heap.size := by omega); (try have : w.heap.size + 1 + 1 + 1 < w1.heap.size := by omega); (try have : g < w1.heap.size := by omega); (try have : ga < w1.heap.size := by omega); (try have : gb < w1.heap.size := by omega); (try have : gc < w1.heap.size := by omega))
    have f0 : w.heap.size < w1.heap.size := by omega
    have bx0 : w1.heap[w.heap.size + 1]? = some (.cells #[.int .i64 0, .int .u64 0] 95) := by
      rw [hb1.block _ (by simp)]
      have := heap_alloc_new (w.alloc (.cells #[.int .i64 (hi a), .int .u64 (lo a)] 95)) (.cells #[.int .i64 0, .int .u64 0] 95)
      simpa using this
    refine at_world fun W0 hW0 => ?_
    have c1 : W0.cell? ⟨w.heap.size, 0, none⟩ = some (.int .i64 (hi a)) := by subst hW0; simp [*, go_sem, World.cell?_alloc_past]
    have c2 : W0.cell? ⟨w.heap.size, 1, none⟩ = some (.int .u64 (lo a)) := by subst hW0; simp [*, go_sem, World.cell?_alloc_past]
    have c3 : W0.cell? ⟨w1.heap.size, 0, none⟩ = some (.int .i64 (hi q)) := by subst hW0; simp [go_sem]
    have c4 : W0.cell? ⟨w1.heap.size, 1, none⟩ = some (.int .u64 (lo q)) := by subst hW0; simp [go_sem]
    have bx1 : W0.heap[w.heap.size + 1]? = some (.cells #[.int .i64 0, .int .u64 0] 95) := by
      subst hW0; exact (Below.heap_alloc w1 _ _ (by omega)).trans bx0
    have k1 : w.heap.size < W0.heap.size := by subst hW0; simp; omega
    have k2 : w1.heap.size < W0.heap.size := by subst hW0; simp
    have BW : Below w.heap.size w W0 := by subst hW0; exact (by repeat (first | (with_reducible exact Below.refl _ _) | (with_reducible assumption) | (with_reducible refine Below.drew ?_) | (with_reducible refine Below.alloc ?_ ?_ _) | (with_reducible refine Below.setCell ?_ ?_ _) | (with_reducible refine Below.trans ?_ (Below.mono hb ?_)) | (with_reducible refine Below.trans ?_ (Below.mono hb1 ?_)) | (with_reducible refine Below.trans ?_ (Below.mono hb2 ?_)) | (with_reducible refine Below.trans ?_ (Below.mono hb3 ?_)) | (with_reducible refine Below.trans ?_ (Below.mono hb4 ?_)) | (with_reducible refine Below.trans ?_ (Below.mono hb5 ?_)) | (with_reducible refine Below.trans ?_ (Below.mono hb6 ?_)) | (with_reducible refine Below.trans ?_ (Below.mono hb7 ?_)) | (with_reducible refine Below.trans ?_ (Below.mono hb8 ?_)) | (with_reducible refine Below.trans ?_ (Below.mono hb9 ?_)) | (focus (first | omega | (simp; done) | (simp; omega))) | exact hB))
    clear hW0 bx0 hc1 hf1
    go_cut [6] (fun v w' => ∃ g : Nat, v = .pointer (some ⟨g, 0, none⟩) ∧ W0.heap.size ≤ g ∧ g < w'.heap.size ∧ Below W0.heap.size W0 w' ∧ w'.cell? ⟨g, 0, none⟩ = some (.int .i64 (hi r)) ∧ w'.cell? ⟨g, 1, none⟩ = some (.int .u64 (lo r)))
    case first =>
      go_region_held3 (fun w' => Below W0.heap.size W0 w' ∧ ∀ b o, b < W0.heap.size → w'.cell? ⟨b, o, none⟩ = W0.cell? ⟨b, o, none⟩) ((first | (refine sb_call ?_ hb; assumption) | exact sb_of hs | exact sb_of (Below.drew hs) | (refine sb_call ?_ hb1; assumption) | (refine sb_call ?_ hb2; assumption) | (refine sb_call ?_ hb3; assumption) | (refine sb_call ?_ hb4; assumption) | (refine sb_call ?_ hb5; assumption) | (refine sb_call ?_ hb6; assumption) | (refine sb_call ?_ hb7; assumption) | (refine sb_call ?_ hb8; assumption) | (refine sb_call ?_ hb9; assumption) | exact sb_of (by repeat (first | (with_reducible exact Below.refl _ _) | (with_reducible assumption) | (with_reducible refine Below.drew ?_) | (with_reducible refine Below.alloc ?_ ?_ _) | (with_reducible refine Below.setCell ?_ ?_ _) | (with_reducible refine Below.trans ?_ (Below.mono hb ?_)) | (with_reducible refine Below.trans ?_ (Below.mono hb1 ?_)) | (with_reducible refine Below.trans ?_ (Below.mono hb2 ?_)) | (with_reducible refine Below.trans ?_ (Below.mono hb3 ?_)) | (with_reducible refine Below.trans ?_ (Below.mono hb4 ?_)) | (with_reducible refine Below.trans ?_ (Below.mono hb5 ?_)) | (with_reducible refine Below.trans ?_ (Below.mono hb6 ?_)) | (with_reducible refine Below.trans ?_ (Below.mono hb7 ?_)) | (with_reducible refine Below.trans ?_ (Below.mono hb8 ?_)) | (with_reducible refine Below.trans ?_ (Below.mono hb9 ?_)) | (focus (first | omega | (simp; done) | (simp; omega))) | exact hB))))
        (first
          | (go_at_call 68; refine (R2.out _).mono ?_; rintro e w2 ⟨rfl, hb2⟩; have hs2 := sb_below (by assumption) hb2; have hz2 := hs2.size; obtain ⟨hc2, hf2, hy2⟩ := bcell hb2; (try simp at hy2); (try have : W0.heap.size < w2.heap.size := by omega); (try have : w1.heap.size < w2.heap.size := by omega))
          | (go_at_call 98; refine (R3.out _).mono ?_; rintro e w3 ⟨rfl, hb3⟩; have hs3 := sb_below (by assumption) hb3; have hz3 := hs3.size; obtain ⟨hc3, hf3, hy3⟩ := bcell hb3; (try simp at hy3); (try have : W0.heap.size < w3.heap.size := by omega); (try have : w1.heap.size < w3.heap.size := by omega); (try have : w2.heap.size < w3.heap.size := by omega)))
      all_goals
        go_wp2_with fail
        go_meet
        case rel => exact ⟨_, rfl, (by first | omega | (simp; done) | (simp; omega)), (by first | omega | (simp; done) | (simp; omega)), (by assumption : _ ∧ _).1, by simp [*, go_sem], by simp [*, go_sem]⟩
    case rest =>
    obtain ⟨g, rfl, g1, g2, hB, d1, d2⟩ := hcut
    have d3 : wc.cell? ⟨w1.heap.size, 0, none⟩ = some (.int .i64 (hi q)) := by rw [hB.cell (p := ⟨w1.heap.size, 0, none⟩) k2]; exact c3
    have d4 : wc.cell? ⟨w1.heap.size, 1, none⟩ = some (.int .u64 (lo q)) := by rw [hB.cell (p := ⟨w1.heap.size, 1, none⟩) k2]; exact c4
    have bx2 : wc.heap[w.heap.size + 1]? = some (.cells #[.int .i64 0, .int .u64 0] 95) := (hB.block _ (by omega)).trans bx1
    have k3 : w1.heap.size < wc.heap.size := by omega
    have BC : Below w.heap.size w wc := BW.trans (hB.mono (by omega))
    have e1 : wc.cell? ⟨w.heap.size + 1, 0, none⟩ = some (.int .i64 0) := by simp [World.cell?, bx2]
    have e2 : wc.cell? ⟨w.heap.size + 1, 1, none⟩ = some (.int .u64 0) := by simp [World.cell?, bx2]
    have e3 : wc.frozen? ⟨w.heap.size + 1, 0, none⟩ = false := by simp [World.frozen?, bx2]
    have e4 : wc.frozen? ⟨w.heap.size + 1, 1, none⟩ = false := by simp [World.frozen?, bx2]
    have k4 : w.heap.size + 1 < wc.heap.size := by omega
    clear c1 c2 c3 c4 k1 k2 BW g1 hB bx1
    go_wp2_with (first | (go_at_call 69; refine (O1.out _).mono ?_; rintro e w4 ⟨rfl, hb4⟩; obtain ⟨hc4, hf4, hz4⟩ := bcell hb4; (try simp at hz4); (try have : w.heap.size < w4.heap.size := by omega); (try have : w.heap.size + 1 < w4.heap.size := by omega); (try have : w.heap.size + 1 + 1 < w4.heap.size := by omega); (try have : w.heap.size + 1 + 1 + 1 < w4.heap.size := by omega); (try have : w1.heap.size < w4.heap.size := by omega); (try have : w1.heap.size + 1 < w4.heap.size := by omega); (try have : w1.heap.size + 1 + 1 < w4.heap.size := by omega); (try have : w1.heap.size + 1 + 1 + 1 < w4.heap.size := by omega); (try have : w2.heap.size < w4.heap.size := by omega); (try have : w2.heap.size + 1 < w4.heap.size := by omega); (try have : w2.heap.size + 1 + 1 < w4.heap.size := by omega); (try have : w2.heap.size + 1 + 1 + 1 < w4.heap.size := by omega); (try have : w3.heap.size < w4.heap.size := by omega); (try have : w3.heap.size + 1 < w4.heap.size := by omega); (try have : w3.heap.size + 1 + 1 < w4.heap.size := by omega); (try have : w3.heap.size + 1 + 1 + 1 < w4.heap.size := by omega); (try have : g < w4.heap.size := by omega); (try have : ga < w4.heap.size := by omega); (try have : gb < w4.heap.size := by omega); (try have : gc < w4.heap.size := by omega)) | (go_at_call 68; refine (R4.out _).mono ?_; rintro e w5 ⟨rfl, hb5⟩; obtain ⟨hc5, hf5, hz5⟩ := bcell hb5; (try simp at hz5); (try have : w.heap.size < w5.heap.size := by omega); (try have : w.heap.size + 1 < w5.heap.size := by omega); (try have : w.heap.size + 1 + 1 < w5.heap.size := by omega); (try have : w.heap.size + 1 + 1 + 1 < w5.heap.size := by omega); (try have : w1.heap.size < w5.heap.size := by omega); (try have : w1.heap.size + 1 < w5.heap.size := by omega); (try have : w1.heap.size + 1 + 1 < w5.heap.size := by omega); (try have : w1.heap.size + 1 + 1 + 1 < w5.heap.size := by omega); (try have : w2.heap.size < w5.heap.size := by omega); (try have : w2.heap.size + 1 < w5.heap.size := by omega); (try have : w2.heap.size + 1 + 1 < w5.heap.size := by omega); (try have : w2.heap.size + 1 + 1 + 1 < w5.heap.size := by omega); (try have : w3.heap.size < w5.heap.size := by omega); (try have : w3.heap.size + 1 < w5.heap.size := by omega); (try have : w3.heap.size + 1 + 1 < w5.heap.size := by omega); (try have : w3.heap.size + 1 + 1 + 1 < w5.heap.size := by omega); (try have : w4.heap.size < w5.heap.size := by omega); (try have : w4.heap.size + 1 < w5.heap.size := by omega); (try have : w4.heap.size + 1 + 1 < w5.heap.size := by omega); (try have : w4.heap.size + 1 + 1 + 1 < w5.heap.size := by omega); (try have : g < w5.heap.size := by omega); (try have : ga < w5.heap.size := by omega); (try have : gb < w5.heap.size := by omega); (try have : gc < w5.heap.size := by omega)) | (go_at_call 99; refine (R5.out _).mono ?_; rintro e w6 ⟨rfl, hb6⟩; obtain ⟨hc6, hf6, hz6⟩ := bcell hb6; (try simp at hz6); (try have : w.heap.size < w6.heap.size := by omega); (try have : w.heap.size + 1 < w6.heap.size := by omega); (try have : w.heap.size + 1 + 1 < w6.heap.size := by omega); (try have : w.heap.size + 1 + 1 + 1 < w6.heap.size := by omega); (try have : w1.heap.size < w6.heap.size := by omega); (try have : w1.heap.size + 1 < w6.heap.size := by omega); (try have : w1.heap.size + 1 + 1 < w6.heap.size := by omega); (try have : w1.heap.size + 1 + 1 + 1 < w6.heap.size := by omega); (try have : w2.heap.size < w6.heap.size := by omega); (try have : w2.heap.size + 1 < w6.heap.size := by omega); (try have : w2.heap.size + 1 + 1 < w6.heap.size := by omega); (try have : w2.heap.size + 1 + 1 + 1 < w6.heap.size := by omega); (try have : w3.heap.size < w6.heap.size := by omega); (try have : w3.heap.size + 1 < w6.heap.size := by omega); (try have : w3.heap.size + 1 + 1 < w6.heap.size := by omega); (try have : w3.heap.size + 1 + 1 + 1 < w6.heap.size := by omega); (try have : w4.heap.size < w6.heap.size := by omega); (try have : w4.heap.size + 1 < w6.heap.size := by omega); (try have : w4.heap.size + 1 + 1 < w6.heap.size := by omega); (try have : w4.heap.size + 1 + 1 + 1 < w6.heap.size := by omega); (try have : w5.heap.size < w6.heap.size := by omega); (try have : w5.heap.size + 1 < w6.heap.size := by omega); (try have : w5.heap.size + 1 + 1 < w6.heap.size := by omega); (try have : w5.heap.size + 1 + 1 + 1 < w6.heap.size := by omega); (try have : g < w6.heap.size := by omega); (try have : ga < w6.heap.size := by omega); (try have : gb < w6.heap.size := by omega); (try have : gc < w6.heap.size := by omega)) | fail)
    exact bodyPost_ret (v := .agg #[.int .i64 (hi q), .int .u64 (lo q)]) (by simp [*, results, Try.results71, go_sem]) rfl ⟨rfl, (by repeat (first | (with_reducible exact Below.refl _ _) | (with_reducible assumption) | (with_reducible refine Below.drew ?_) | (with_reducible refine Below.alloc ?_ ?_ _) | (with_reducible refine Below.setCell ?_ ?_ _) | (with_reducible refine Below.trans ?_ (Below.mono hb ?_)) | (with_reducible refine Below.trans ?_ (Below.mono hb1 ?_)) | (with_reducible refine Below.trans ?_ (Below.mono hb2 ?_)) | (with_reducible refine Below.trans ?_ (Below.mono hb3 ?_)) | (with_reducible refine Below.trans ?_ (Below.mono hb4 ?_)) | (with_reducible refine Below.trans ?_ (Below.mono hb5 ?_)) | (with_reducible refine Below.trans ?_ (Below.mono hb6 ?_)) | (with_reducible refine Below.trans ?_ (Below.mono hb7 ?_)) | (with_reducible refine Below.trans ?_ (Below.mono hb8 ?_)) | (with_reducible refine Below.trans ?_ (Below.mono hb9 ?_)) | (focus (first | omega | (simp; done) | (simp; omega))) | exact hB))⟩

theorem round_any (a n : Int) (ha : In128 a) (hn : In64 n) (w : World) :
    Calls Try.prog 71 #[.agg #[.int .i64 (hi a), .int .u64 (lo a)], .int .i64 n] w fun e w' =>
      e = .returned (.agg #[.int .i64 (hi (roundI a n)), .int .u64 (lo (roundI a n))]) ∧ Below w.heap.size w w' := by
  unfold In64 at hn
  by_cases h1 : n ≤ 0
  · have e : roundI a n = a := by unfold roundI; rw [if_pos h1]
    have E := Lib.hid e; clear e
    rw [E.out]
    go_enter Try.func71, Try.ntmps71
    go_wp2
    exact bodyPost_ret (v := .agg #[.int .i64 (hi a), .int .u64 (lo a)]) (by simp [results, Try.results71, go_sem]) rfl ⟨rfl, (by repeat (first | (with_reducible exact Below.refl _ _) | (with_reducible assumption) | (with_reducible refine Below.drew ?_) | (with_reducible refine Below.alloc ?_ ?_ _) | (with_reducible refine Below.setCell ?_ ?_ _) | (with_reducible refine Below.trans ?_ (Below.mono hb ?_)) | (with_reducible refine Below.trans ?_ (Below.mono hb1 ?_)) | (with_reducible refine Below.trans ?_ (Below.mono hb2 ?_)) | (with_reducible refine Below.trans ?_ (Below.mono hb3 ?_)) | (with_reducible refine Below.trans ?_ (Below.mono hb4 ?_)) | (with_reducible refine Below.trans ?_ (Below.mono hb5 ?_)) | (with_reducible refine Below.trans ?_ (Below.mono hb6 ?_)) | (with_reducible refine Below.trans ?_ (Below.mono hb7 ?_)) | (with_reducible refine Below.trans ?_ (Below.mono hb8 ?_)) | (with_reducible refine Below.trans ?_ (Below.mono hb9 ?_)) | (focus (first | omega | (simp; done) | (simp; omega))) | exact hB))⟩
  by_cases h2 : 127 < n
  · have e : roundI a n = 0 := by unfold roundI; rw [if_neg h1, if_pos h2]
    have E := Lib.hid e; clear e
    rw [E.out]
    go_enter Try.func71, Try.ntmps71
    go_wp2
    exact bodyPost_ret (v := .agg #[.int .i64 (hi 0), .int .u64 (lo 0)]) (by simp [results, Try.results71, go_sem]; decide) rfl ⟨rfl, (by repeat (first | (with_reducible exact Below.refl _ _) | (with_reducible assumption) | (with_reducible refine Below.drew ?_) | (with_reducible refine Below.alloc ?_ ?_ _) | (with_reducible refine Below.setCell ?_ ?_ _) | (with_reducible refine Below.trans ?_ (Below.mono hb ?_)) | (with_reducible refine Below.trans ?_ (Below.mono hb1 ?_)) | (with_reducible refine Below.trans ?_ (Below.mono hb2 ?_)) | (with_reducible refine Below.trans ?_ (Below.mono hb3 ?_)) | (with_reducible refine Below.trans ?_ (Below.mono hb4 ?_)) | (with_reducible refine Below.trans ?_ (Below.mono hb5 ?_)) | (with_reducible refine Below.trans ?_ (Below.mono hb6 ?_)) | (with_reducible refine Below.trans ?_ (Below.mono hb7 ?_)) | (with_reducible refine Below.trans ?_ (Below.mono hb8 ?_)) | (with_reducible refine Below.trans ?_ (Below.mono hb9 ?_)) | (focus (first | omega | (simp; done) | (simp; omega))) | exact hB))⟩
  · have e : roundI a n = rnd a (2 ^ n.toNat) := by unfold roundI; rw [if_neg h1, if_neg h2]
    rw [e]
    exact round_mid a n ha (by omega) (by omega) w
end Go.Proofs.Ytikjomekhnkgcaa
