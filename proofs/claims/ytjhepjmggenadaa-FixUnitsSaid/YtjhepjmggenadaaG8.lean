import Derived.Test.YtjhepjmggenadaaG7
import Derived.Test.YtjhepjmggenadaaL5
/- The reference's sums: Root, walked. -/
namespace Go.Proofs.Ytjhepjmggenadaa
open Go.RowKit
attribute [local go_sem ↓] Go.wp_at_zero Go.wp_at_succ

theorem root_top {m : Int} (h0 : 0 ≤ m) (h1 : m < 85070591730234615865843651857942052864) : dg 4 m = 0 ∧ dg 5 m = 0 ∧ dg 3 m < 1073741824 := by
  unfold dg
  simp only [show 32 * 4 = 128 by rfl, show 32 * 5 = 160 by rfl, show 32 * 3 = 96 by rfl]
  rw [show (2 : Int) ^ 128 = 340282366920938463463374607431768211456 by rfl, show (2 : Int) ^ 160 = 1461501637330902918203684832716283019655932542976 by rfl, show (2 : Int) ^ 96 = 79228162514264337593543950336 by rfl]
  omega
set_option maxHeartbeats 2000000 in
theorem root02_neg (p n : Int) (hp : BIG p) (hn : BIG n) (h : p < n) (w : World) :
    Calls Try.prog 56 #[.agg #[.int .u64 (dg 0 (p)), .int .u64 (dg 1 (p)), .int .u64 (dg 2 (p)), .int .u64 (dg 3 (p)), .int .u64 (dg 4 (p)), .int .u64 (dg 5 (p)), .int .u64 (dg 0 (n)), .int .u64 (dg 1 (n)), .int .u64 (dg 2 (n)), .int .u64 (dg 3 (n)), .int .u64 (dg 4 (n)), .int .u64 (dg 5 (n))]] w fun e w' => e = .returned (.tuple #[.int .i64 0, .bool true]) ∧ Below w.heap.size w w' := by
  have WH := Lib.hid (fun W => whole_any p n hp hn W)
  rw [decide_eq_true (show p - n < 0 by omega)] at WH
  generalize absI (p - n) = m at *
  clear h hp hn
  go_enter Try.func56, Try.ntmps56
  go_wp2_with (go_at_call 72; refine (WH.out _).mono ?_; rintro e w1 ⟨rfl, hb1⟩; obtain ⟨hc1, hf1, hz1⟩ := bcell hb1; (try simp at hz1); (try have : w.heap.size < w1.heap.size := by omega); (try have : w.heap.size + 1 < w1.heap.size := by omega); (try have : w.heap.size + 1 + 1 < w1.heap.size := by omega); (try have : w.heap.size + 1 + 1 + 1 < w1.heap.size := by omega); (try have : g < w1.heap.size := by omega); (try have : ga < w1.heap.size := by omega); (try have : gb < w1.heap.size := by omega); (try have : gc < w1.heap.size := by omega); have hB : Below w.heap.size w w1 := (by repeat (first | (with_reducible exact Below.refl _ _) | (with_reducible assumption) | (with_reducible refine Below.drew ?_) | (with_reducible refine Below.alloc ?_ ?_ _) | (with_reducible refine Below.setCell ?_ ?_ _) | (with_reducible refine Below.trans ?_ (Below.mono hb ?_)) | (with_reducible refine Below.trans ?_ (Below.mono hb1 ?_)) | (with_reducible refine Below.trans ?_ (Below.mono hb2 ?_)) | (with_reducible refine Below.trans ?_ (Below.mono hb3 ?_)) | (with_reducible refine Below.trans ?_ (Below.mono hb4 ?_)) | (with_reducible refine Below.trans ?_ (Below.mono hb5 ?_)) | (with_reducible refine Below.trans ?_ (Below.mono hb6 ?_)) | (with_reducible refine Below.trans ?_ (Below.mono hb7 ?_)) | (with_reducible refine Below.trans ?_ (Below.mono hb8 ?_)) | (with_reducible refine Below.trans ?_ (Below.mono hb9 ?_)) | (focus (first | omega | (simp; done) | (simp; omega))) | exact hB)))
  go_ret2
  exact ⟨rfl, (by repeat (first | (with_reducible exact Below.refl _ _) | (with_reducible assumption) | (with_reducible refine Below.drew ?_) | (with_reducible refine Below.alloc ?_ ?_ _) | (with_reducible refine Below.setCell ?_ ?_ _) | (with_reducible refine Below.trans ?_ (Below.mono hb ?_)) | (with_reducible refine Below.trans ?_ (Below.mono hb1 ?_)) | (with_reducible refine Below.trans ?_ (Below.mono hb2 ?_)) | (with_reducible refine Below.trans ?_ (Below.mono hb3 ?_)) | (with_reducible refine Below.trans ?_ (Below.mono hb4 ?_)) | (with_reducible refine Below.trans ?_ (Below.mono hb5 ?_)) | (with_reducible refine Below.trans ?_ (Below.mono hb6 ?_)) | (with_reducible refine Below.trans ?_ (Below.mono hb7 ?_)) | (with_reducible refine Below.trans ?_ (Below.mono hb8 ?_)) | (with_reducible refine Below.trans ?_ (Below.mono hb9 ?_)) | (focus (first | omega | (simp; done) | (simp; omega))) | exact hB))⟩
theorem sq_le' {x y : Int} (h0 : 0 ≤ x) (h : x ≤ y) : x * x ≤ y * y := Int.mul_le_mul h h h0 (by omega)
set_option maxHeartbeats 4000000 in
theorem root02_any (p n : Int) (hp : BIG p) (hn : BIG n) (h : n ≤ p) (h1 : p - n < 85070591730234615865843651857942052864) (x : Int) (hx : isRoot (p - n) x) (w : World) :
    Calls Try.prog 56 #[.agg #[.int .u64 (dg 0 (p)), .int .u64 (dg 1 (p)), .int .u64 (dg 2 (p)), .int .u64 (dg 3 (p)), .int .u64 (dg 4 (p)), .int .u64 (dg 5 (p)), .int .u64 (dg 0 (n)), .int .u64 (dg 1 (n)), .int .u64 (dg 2 (n)), .int .u64 (dg 3 (n)), .int .u64 (dg 4 (n)), .int .u64 (dg 5 (n))]] w fun e w' => e = .returned (.tuple #[.int .i64 x, .bool false]) ∧ Below w.heap.size w w' := by
  have WH := Lib.hid (fun W => whole_any p n hp hn W)
  rw [decide_eq_false (show ¬ p - n < 0 by omega), show absI (p - n) = p - n by unfold absI; rw [if_neg (by omega)]] at WH
  have hm0 : 0 ≤ p - n := by omega
  generalize p - n = m at *
  obtain ⟨t4, t5, t3⟩ := root_top hm0 h1
  have HX := Lib.hid hx
  clear h hp hn hx
  go_enter Try.func56, Try.ntmps56
  go_wp2_with (go_at_call 72; refine (WH.out _).mono ?_; rintro e w1 ⟨rfl, hb1⟩; obtain ⟨hc1, hf1, hz1⟩ := bcell hb1; (try simp at hz1); (try have : w.heap.size < w1.heap.size := by omega); (try have : w.heap.size + 1 < w1.heap.size := by omega); (try have : w.heap.size + 1 + 1 < w1.heap.size := by omega); (try have : w.heap.size + 1 + 1 + 1 < w1.heap.size := by omega); (try have : g < w1.heap.size := by omega); (try have : ga < w1.heap.size := by omega); (try have : gb < w1.heap.size := by omega); (try have : gc < w1.heap.size := by omega); have hB : Below w.heap.size w w1 := (by repeat (first | (with_reducible exact Below.refl _ _) | (with_reducible assumption) | (with_reducible refine Below.drew ?_) | (with_reducible refine Below.alloc ?_ ?_ _) | (with_reducible refine Below.setCell ?_ ?_ _) | (with_reducible refine Below.trans ?_ (Below.mono hb ?_)) | (with_reducible refine Below.trans ?_ (Below.mono hb1 ?_)) | (with_reducible refine Below.trans ?_ (Below.mono hb2 ?_)) | (with_reducible refine Below.trans ?_ (Below.mono hb3 ?_)) | (with_reducible refine Below.trans ?_ (Below.mono hb4 ?_)) | (with_reducible refine Below.trans ?_ (Below.mono hb5 ?_)) | (with_reducible refine Below.trans ?_ (Below.mono hb6 ?_)) | (with_reducible refine Below.trans ?_ (Below.mono hb7 ?_)) | (with_reducible refine Below.trans ?_ (Below.mono hb8 ?_)) | (with_reducible refine Below.trans ?_ (Below.mono hb9 ?_)) | (focus (first | omega | (simp; done) | (simp; omega))) | exact hB)))
  obtain ⟨G, hG⟩ : ∃ G, G = w1.heap.size := ⟨_, rfl⟩
  have hGw : w.heap.size < G := by omega
  have HG := Lib.hid hG
  rw [← hG]
  have hz1 : w.heap.size + 1 ≤ G := by omega
  clear hG hc1 hf1
  have T := Lib.hid (And.intro t4 t5)
  have LE := Lib.hid (fun (t : Int) (ht : BIG (t * t)) (W : World) => less_any m (t * t) ⟨hm0, by omega⟩ ht W)
  clear t4 t5 t3
  go_loopw [6, 7] (fun r i wr => ∃ j : Nat, j ≤ 63 ∧ i = .int .i64 (62 - j) ∧ (∃ y, r = .int .u64 y ∧ Rooted m j y) ∧ wr.heap[G]? = some (.cells #[.int .u64 (dg 0 (m)), .int .u64 (dg 1 (m)), .int .u64 (dg 2 (m)), .int .u64 (dg 3 (m)), .int .u64 (dg 4 (m)), .int .u64 (dg 5 (m))] 45 (0, 0)) ∧ Below w.heap.size w wr) (fun _ i _ => (intOf i + 1).toNat)
  case atStart =>
    refine ⟨0, by omega, rfl, ⟨0, rfl, rooted_start m hm0 h1⟩, ?_, (by repeat (first | (with_reducible exact Below.refl _ _) | (with_reducible assumption) | (with_reducible refine Below.drew ?_) | (with_reducible refine Below.alloc ?_ ?_ _) | (with_reducible refine Below.setCell ?_ ?_ _) | (with_reducible refine Below.trans ?_ (Below.mono hb ?_)) | (with_reducible refine Below.trans ?_ (Below.mono hb1 ?_)) | (with_reducible refine Below.trans ?_ (Below.mono hb2 ?_)) | (with_reducible refine Below.trans ?_ (Below.mono hb3 ?_)) | (with_reducible refine Below.trans ?_ (Below.mono hb4 ?_)) | (with_reducible refine Below.trans ?_ (Below.mono hb5 ?_)) | (with_reducible refine Below.trans ?_ (Below.mono hb6 ?_)) | (with_reducible refine Below.trans ?_ (Below.mono hb7 ?_)) | (with_reducible refine Below.trans ?_ (Below.mono hb8 ?_)) | (with_reducible refine Below.trans ?_ (Below.mono hb9 ?_)) | (focus (first | omega | (simp; done) | (simp; omega))) | exact hB))⟩
    rw [HG.out, T.out.1, T.out.2]
    exact heap_alloc_new w1 _
  case round =>
    obtain ⟨j, hj, rfl, ⟨y, rfl, hR⟩, hM, hB⟩ := hrel
    have kG := lt_of_block hM
    by_cases hlt : j < 63
    · have ei : (62 : Int) - (j : Int) = ((62 - j : Nat) : Int) := by omega
      have hl := rooted_lt hR hj h1
      obtain ⟨_, _, s1, s2⟩ := rooted_step hR hlt
      have hy0 := hR.r0
      have hp := pow_pos' (62 - j)
      have hp2 : (2 : Int) ^ (63 - j) = 2 * 2 ^ (62 - j) := by rw [show 63 - j = 62 - j + 1 by omega, Int.pow_succ, Int.mul_comm]
      rw [hp2] at hl
      have S1 := Lib.hid s1
      have S2 := Lib.hid s2
      have ek : (62 - (j : Int)).toNat = 62 - j := by omega
      have i0 : (0 : Int) ≤ 62 - (j : Int) := by omega
      have i1 : (62 : Int) - (j : Int) < 64 := by omega
      have x0 := cell_of_row wr G 0 _ _ _ hM
      have x1 := cell_of_row wr G 1 _ _ _ hM
      have x2 := cell_of_row wr G 2 _ _ _ hM
      have x3 := cell_of_row wr G 3 _ _ _ hM
      have x4 := cell_of_row wr G 4 _ _ _ hM
      have x5 := cell_of_row wr G 5 _ _ _ hM
      simp only [List.getElem?_toArray, List.getElem?_cons_zero, List.getElem?_cons_succ] at x0 x1 x2 x3 x4 x5
      have HM := Lib.hid hM
      clear hM s1 s2 hp2 hR ei
      go_wp2_with fail
      have PR := Lib.hid (fun W => product_any (y + 2 ^ (62 - j)) (y + 2 ^ (62 - j)) ⟨by omega, by omega⟩ ⟨by omega, by omega⟩ W)
      have zb := sq_le' (show (0 : Int) ≤ y + 2 ^ (62 - j) by omega) (show y + 2 ^ (62 - j) ≤ 9223372036854775808 by omega)
      have zn := sq_le' (show (0 : Int) ≤ 0 by omega) (show 0 ≤ y + 2 ^ (62 - j) by omega)
      have LE1 := Lib.hid (fun W => LE.out (y + 2 ^ (62 - j)) ⟨by omega, by omega⟩ W)
      clear LE zb zn
      generalize hz : y + 2 ^ (62 - j) = z at *
      by_cases hc : m < z * z
      · rw [decide_eq_true hc] at LE1
        have S := S2.out (by omega)
        have HS := Lib.hid S
        clear S S1 S2
        generalize hq : z * z = q at *
        clear hc hq
        go_region_with (first
          | (go_at_call 70; refine (PR.out _).mono ?_; rintro e w2 ⟨rfl, hb2⟩; replace hb2 := undrew hb2; obtain ⟨hc2, hf2, hz2⟩ := bcell hb2; have k2 : G < w2.heap.size := by omega)
          | (go_at_call 92; refine (LE1.out _).mono ?_; rintro e w3 ⟨rfl, hb3⟩; obtain ⟨hc3, hf3, hz3⟩ := bcell hb3))
        all_goals
          clear hc2 hf2 hc3 hf3 x0 x1 x2 x3 x4 x5
          go_wp2_with fail
          go_roundw
          case rel =>
            refine ⟨j + 1, by omega, by simp; omega, ⟨_, rfl, HS.out⟩, (hb3.block _ (by omega)).trans ((hb2.block _ kG).trans HM.out), ?_⟩
            exact hB.trans ((hb2.mono (by have := hB.size; omega)).trans (hb3.mono (by have := hB.size; omega)))
          case measure => simp [intOf]; omega
      · rw [decide_eq_false hc] at LE1
        have S := S1.out (by omega)
        have HS := Lib.hid S
        clear S S1 S2
        generalize hq : z * z = q at *
        clear hc hq
        go_region_with (first
          | (go_at_call 70; refine (PR.out _).mono ?_; rintro e w2 ⟨rfl, hb2⟩; replace hb2 := undrew hb2; obtain ⟨hc2, hf2, hz2⟩ := bcell hb2; have k2 : G < w2.heap.size := by omega)
          | (go_at_call 92; refine (LE1.out _).mono ?_; rintro e w3 ⟨rfl, hb3⟩; obtain ⟨hc3, hf3, hz3⟩ := bcell hb3))
        all_goals
          clear hc2 hf2 hc3 hf3 x0 x1 x2 x3 x4 x5
          go_wp2_with fail
          go_roundw
          case rel =>
            refine ⟨j + 1, by omega, by simp; omega, ⟨_, rfl, HS.out⟩, (hb3.block _ (by omega)).trans ((hb2.block _ kG).trans HM.out), ?_⟩
            exact hB.trans ((hb2.mono (by have := hB.size; omega)).trans (hb3.mono (by have := hB.size; omega)))
          case measure => simp [intOf]; omega
    · obtain rfl : j = 63 := by omega
      obtain rfl := root_unique (rooted_end hR) HX.out
      have hw : wrap64 y = y := by
        have h3 := rooted_lt hR (by omega) h1
        have h4 := hR.r0
        simp at h3
        unfold wrap64; omega
      clear hR hM
      have HW := Lib.hid hw
      clear hw
      go_wp2
      go_ret2
      refine ⟨?_, hB⟩
      show Ending.returned (.tuple #[.int .i64 (wrap64 y), .bool false]) = _
      rw [HW.out]
end Go.Proofs.Ytjhepjmggenadaa
