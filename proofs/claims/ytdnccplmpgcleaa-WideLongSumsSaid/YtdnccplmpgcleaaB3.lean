import Derived.Test.YtdnccplmpgcleaaB2
import Derived.Test.YtdnccplmpgcleaaL3
/- The reference's numbers as bits: Cmp, Word, Words. -/
namespace Go.Proofs.Ytdnccplmpgcleaa
open Go.RowKit

theorem half_bit (x : Int) (j : Nat) : x / 2 ^ j = 2 * (x / 2 ^ (j + 1)) + bitI j x := by
  have e : x / 2 ^ (j + 1) = x / 2 ^ j / 2 := by rw [p2succ, Int.mul_comm 2, ← Int.ediv_ediv_of_nonneg (by have := p2pos j; omega)]
  unfold bitI
  rw [e]
  omega
theorem top_lt {x y : Int} {j : Nat} (h : x / 2 ^ (j + 1) = y / 2 ^ (j + 1)) (hb : bitI j x < bitI j y) : x < y := by
  have h1 := half_bit x j
  have h2 := half_bit y j
  rcases (by omega : x < y ∨ y ≤ x) with h3 | h3
  · exact h3
  · have := Int.ediv_le_ediv (p2pos j) h3
    omega
theorem cmp_eqI {a b : Int} (h : a = b) : cmpI a b = 0 := by unfold cmpI; rw [if_neg (by omega), if_pos h]
theorem cmp_ltI {a b : Int} (h : a < b) : cmpI a b = -1 := by unfold cmpI; rw [if_pos h]
theorem cmp_gtI {a b : Int} (h : b < a) : cmpI a b = 1 := by unfold cmpI; rw [if_neg (by omega), if_neg (by omega)]
theorem top_sign {n : Nat} {x y : Int} (hx : InB n x) (hy : InB n y) (h : x < 0 ↔ y < 0) : x / 2 ^ n = y / 2 ^ n := by
  have := p2le (show n - 1 ≤ n by omega)
  unfold InB at *
  rw [ediv_far (by omega) (by omega), ediv_far (by omega) (by omega)]
  simp only [h]

set_option maxHeartbeats 1000000 in
theorem rcmp_any (g c g2 c2 : Nat) (x y : Int) (n : Nat) (hx : InB n x) (hy : InB n y) (hn0 : 0 < n) (hn : n < 1000) (w : World) (hb : Bt w g n x) (hb2 : Bt w g2 n y) :
    Calls Try.prog 27 #[.slice (some ⟨g, 0, none⟩) n c, .slice (some ⟨g2, 0, none⟩) n c2] w fun e w' => e = .returned (.int .i64 (cmpI x y)) ∧ Below w.heap.size w w' := by
  by_cases sx : x < 0 <;> by_cases sy : y < 0
  · have et := top_sign hx hy (by simp only [sx, sy])
    have dx : decide (x < 0) = true := decide_eq_true sx
    have dy : decide (y < 0) = true := decide_eq_true sy
    go_enter Try.func27, Try.ntmps27
    go_wp2_with fail
    refine (rbelow_any _ _ _ _ hx hn0 hn _ hb).mono ?_
    rintro e w1 ⟨rfl, p1⟩
    go_wp2_with fail
    refine (rbelow_any _ _ _ _ hy hn0 hn _ (hb2.call p1)).mono ?_
    rintro e w2 ⟨rfl, p2⟩
    have p3 : Below w.heap.size w w2 := p1.trans (p2.mono p1.size)
    go_wp2_with fail
    go_loopw [5] (fun i wr => ∃ k : Nat, k ≤ n ∧ i = .int .i64 ((k : Int) - 1) ∧ x / 2 ^ k = y / 2 ^ k ∧ Below w.heap.size w wr) (fun i _ => (intOf i + 1).toNat)
    case atStart => exact ⟨n, Nat.le_refl _, rfl, et, p3⟩
    case round =>
      obtain ⟨k, hk, rfl, he, hB⟩ := hrel
      by_cases hk0 : k = 0
      · subst hk0
        have : cmpI x y = 0 := cmp_eqI (by simpa using he)
        clear he et
        go_wp2
        go_ret
        exact ⟨by rw [this]; rfl, hB⟩
      · obtain ⟨j, rfl⟩ : ∃ j, k = j + 1 := ⟨k - 1, by omega⟩
        obtain ⟨hg, hcx⟩ := hb.call hB
        obtain ⟨hg2, hcy⟩ := hb2.call hB
        have ej : ((j + 1 : Nat) : Int) - 1 = j := by omega
        have ht1 := half_bit x j
        have ht2 := half_bit y j
        have f1 : bitI j x < bitI j y → cmpI x y = -1 := fun h => cmp_ltI (top_lt he h)
        have f2 : bitI j y < bitI j x → cmpI x y = 1 := fun h => cmp_gtI (top_lt he.symm h)
        have f3 : bitI j x = bitI j y → x / 2 ^ j = y / 2 ^ j := fun h => by omega
        have d1 := hcx j (by omega)
        have d2 := hcy j (by omega)
        have q1 := pack_cell d1 hg
        have q2 := pack_cell d2 hg2
        clear hcx hcy ht1 ht2 hb hb2 he et p1 p2 p3 hx hy
        generalize bitI j x = bx at *
        generalize bitI j y = by' at *
        rw [ej]
        rcases Int.lt_trichotomy bx by' with t | t | t
        · have e1 := f1 t
          have t1 := bne_of (show bx ≠ by' by omega)
          clear f1 f2 f3
          go_wp2
          refine wp_region_pack (by kernel_rfl) (by kernel_rfl) ?_
          repeat (first | go_big_quiet_skip | (go_big_quiet_want; go_big_quiet_op; first | go_big_quiet_on | (apply Exists.intro; refine ⟨fun npk => ?_, ?_⟩; (focus (first | fail)); go_big_quiet_on)))
          refine wpQuiet_nil ?_
          intro nq
          have hB0 : Below w.heap.size w nq.w := hB.trans (nq.ok.mono hB.size)
          go_wp2
          have q3 := pack_cell (q1 nq) (by have := nq.ok.size; omega)
          have q4 := pack_cell (q2 nq) (by have := nq.ok.size; omega)
          refine wp_region_pack (by kernel_rfl) (by kernel_rfl) ?_
          repeat (first | go_big_quiet_skip | (go_big_quiet_want; go_big_quiet_op; first | go_big_quiet_on | (apply Exists.intro; refine ⟨fun npk => ?_, ?_⟩; (focus (first | fail)); go_big_quiet_on)))
          refine wpQuiet_nil ?_
          intro nq
          go_wp2
          go_ret
          exact ⟨by rw [e1]; rfl, hB0.trans (nq.ok.mono hB0.size)⟩
        · have e1 := f3 t
          have t1 := bne_no t
          have E := Lib.hid e1
          clear f1 f2 f3 e1
          go_wp2
          refine wp_region_pack (by kernel_rfl) (by kernel_rfl) ?_
          repeat (first | go_big_quiet_skip | (go_big_quiet_want; go_big_quiet_op; first | go_big_quiet_on | (apply Exists.intro; refine ⟨fun npk => ?_, ?_⟩; (focus (first | fail)); go_big_quiet_on)))
          refine wpQuiet_nil ?_
          intro nq
          have hB0 : Below w.heap.size w nq.w := hB.trans (nq.ok.mono hB.size)
          go_wp2
          go_roundw
          case rel => exact ⟨j, by omega, rfl, E.out, hB0⟩
          case measure => simp [intOf] <;> try omega
        · have e1 := f2 t
          have t1 := bne_of (show bx ≠ by' by omega)
          clear f1 f2 f3
          go_wp2
          refine wp_region_pack (by kernel_rfl) (by kernel_rfl) ?_
          repeat (first | go_big_quiet_skip | (go_big_quiet_want; go_big_quiet_op; first | go_big_quiet_on | (apply Exists.intro; refine ⟨fun npk => ?_, ?_⟩; (focus (first | fail)); go_big_quiet_on)))
          refine wpQuiet_nil ?_
          intro nq
          have hB0 : Below w.heap.size w nq.w := hB.trans (nq.ok.mono hB.size)
          go_wp2
          have q3 := pack_cell (q1 nq) (by have := nq.ok.size; omega)
          have q4 := pack_cell (q2 nq) (by have := nq.ok.size; omega)
          refine wp_region_pack (by kernel_rfl) (by kernel_rfl) ?_
          repeat (first | go_big_quiet_skip | (go_big_quiet_want; go_big_quiet_op; first | go_big_quiet_on | (apply Exists.intro; refine ⟨fun npk => ?_, ?_⟩; (focus (first | fail)); go_big_quiet_on)))
          refine wpQuiet_nil ?_
          intro nq
          go_wp2
          go_ret
          exact ⟨by rw [e1]; rfl, hB0.trans (nq.ok.mono hB0.size)⟩
  · have dx : decide (x < 0) = true := decide_eq_true sx
    have dy : decide (y < 0) = false := decide_eq_false sy
    have ec := cmp_ltI (show x < y by omega)
    go_enter Try.func27, Try.ntmps27
    go_wp2_with fail
    refine (rbelow_any _ _ _ _ hx hn0 hn _ hb).mono ?_
    rintro e w1 ⟨rfl, p1⟩
    go_wp2_with fail
    refine (rbelow_any _ _ _ _ hy hn0 hn _ (hb2.call p1)).mono ?_
    rintro e w2 ⟨rfl, p2⟩
    have p3 : Below w.heap.size w w2 := p1.trans (p2.mono p1.size)
    go_wp2_with fail
    refine (rbelow_any _ _ _ _ hx hn0 hn _ (hb.call p3)).mono ?_
    rintro e w3 ⟨rfl, p4⟩
    go_wp2_with fail
    go_ret
    exact ⟨by rw [ec]; rfl, p3.trans (p4.mono p3.size)⟩
  · have dx : decide (x < 0) = false := decide_eq_false sx
    have dy : decide (y < 0) = true := decide_eq_true sy
    have ec := cmp_gtI (show y < x by omega)
    go_enter Try.func27, Try.ntmps27
    go_wp2_with fail
    refine (rbelow_any _ _ _ _ hx hn0 hn _ hb).mono ?_
    rintro e w1 ⟨rfl, p1⟩
    go_wp2_with fail
    refine (rbelow_any _ _ _ _ hy hn0 hn _ (hb2.call p1)).mono ?_
    rintro e w2 ⟨rfl, p2⟩
    have p3 : Below w.heap.size w w2 := p1.trans (p2.mono p1.size)
    go_wp2_with fail
    refine (rbelow_any _ _ _ _ hx hn0 hn _ (hb.call p3)).mono ?_
    rintro e w3 ⟨rfl, p4⟩
    go_wp2_with fail
    go_ret
    exact ⟨by rw [ec]; rfl, p3.trans (p4.mono p3.size)⟩
  · have et := top_sign hx hy (by simp only [sx, sy])
    have dx : decide (x < 0) = false := decide_eq_false sx
    have dy : decide (y < 0) = false := decide_eq_false sy
    go_enter Try.func27, Try.ntmps27
    go_wp2_with fail
    refine (rbelow_any _ _ _ _ hx hn0 hn _ hb).mono ?_
    rintro e w1 ⟨rfl, p1⟩
    go_wp2_with fail
    refine (rbelow_any _ _ _ _ hy hn0 hn _ (hb2.call p1)).mono ?_
    rintro e w2 ⟨rfl, p2⟩
    have p3 : Below w.heap.size w w2 := p1.trans (p2.mono p1.size)
    go_wp2_with fail
    go_loopw [5] (fun i wr => ∃ k : Nat, k ≤ n ∧ i = .int .i64 ((k : Int) - 1) ∧ x / 2 ^ k = y / 2 ^ k ∧ Below w.heap.size w wr) (fun i _ => (intOf i + 1).toNat)
    case atStart => exact ⟨n, Nat.le_refl _, rfl, et, p3⟩
    case round =>
      obtain ⟨k, hk, rfl, he, hB⟩ := hrel
      by_cases hk0 : k = 0
      · subst hk0
        have : cmpI x y = 0 := cmp_eqI (by simpa using he)
        clear he et
        go_wp2
        go_ret
        exact ⟨by rw [this]; rfl, hB⟩
      · obtain ⟨j, rfl⟩ : ∃ j, k = j + 1 := ⟨k - 1, by omega⟩
        obtain ⟨hg, hcx⟩ := hb.call hB
        obtain ⟨hg2, hcy⟩ := hb2.call hB
        have ej : ((j + 1 : Nat) : Int) - 1 = j := by omega
        have ht1 := half_bit x j
        have ht2 := half_bit y j
        have f1 : bitI j x < bitI j y → cmpI x y = -1 := fun h => cmp_ltI (top_lt he h)
        have f2 : bitI j y < bitI j x → cmpI x y = 1 := fun h => cmp_gtI (top_lt he.symm h)
        have f3 : bitI j x = bitI j y → x / 2 ^ j = y / 2 ^ j := fun h => by omega
        have d1 := hcx j (by omega)
        have d2 := hcy j (by omega)
        have q1 := pack_cell d1 hg
        have q2 := pack_cell d2 hg2
        clear hcx hcy ht1 ht2 hb hb2 he et p1 p2 p3 hx hy
        generalize bitI j x = bx at *
        generalize bitI j y = by' at *
        rw [ej]
        rcases Int.lt_trichotomy bx by' with t | t | t
        · have e1 := f1 t
          have t1 := bne_of (show bx ≠ by' by omega)
          clear f1 f2 f3
          go_wp2
          refine wp_region_pack (by kernel_rfl) (by kernel_rfl) ?_
          repeat (first | go_big_quiet_skip | (go_big_quiet_want; go_big_quiet_op; first | go_big_quiet_on | (apply Exists.intro; refine ⟨fun npk => ?_, ?_⟩; (focus (first | fail)); go_big_quiet_on)))
          refine wpQuiet_nil ?_
          intro nq
          have hB0 : Below w.heap.size w nq.w := hB.trans (nq.ok.mono hB.size)
          go_wp2
          have q3 := pack_cell (q1 nq) (by have := nq.ok.size; omega)
          have q4 := pack_cell (q2 nq) (by have := nq.ok.size; omega)
          refine wp_region_pack (by kernel_rfl) (by kernel_rfl) ?_
          repeat (first | go_big_quiet_skip | (go_big_quiet_want; go_big_quiet_op; first | go_big_quiet_on | (apply Exists.intro; refine ⟨fun npk => ?_, ?_⟩; (focus (first | fail)); go_big_quiet_on)))
          refine wpQuiet_nil ?_
          intro nq
          go_wp2
          go_ret
          exact ⟨by rw [e1]; rfl, hB0.trans (nq.ok.mono hB0.size)⟩
        · have e1 := f3 t
          have t1 := bne_no t
          have E := Lib.hid e1
          clear f1 f2 f3 e1
          go_wp2
          refine wp_region_pack (by kernel_rfl) (by kernel_rfl) ?_
          repeat (first | go_big_quiet_skip | (go_big_quiet_want; go_big_quiet_op; first | go_big_quiet_on | (apply Exists.intro; refine ⟨fun npk => ?_, ?_⟩; (focus (first | fail)); go_big_quiet_on)))
          refine wpQuiet_nil ?_
          intro nq
          have hB0 : Below w.heap.size w nq.w := hB.trans (nq.ok.mono hB.size)
          go_wp2
          go_roundw
          case rel => exact ⟨j, by omega, rfl, E.out, hB0⟩
          case measure => simp [intOf] <;> try omega
        · have e1 := f2 t
          have t1 := bne_of (show bx ≠ by' by omega)
          clear f1 f2 f3
          go_wp2
          refine wp_region_pack (by kernel_rfl) (by kernel_rfl) ?_
          repeat (first | go_big_quiet_skip | (go_big_quiet_want; go_big_quiet_op; first | go_big_quiet_on | (apply Exists.intro; refine ⟨fun npk => ?_, ?_⟩; (focus (first | fail)); go_big_quiet_on)))
          refine wpQuiet_nil ?_
          intro nq
          have hB0 : Below w.heap.size w nq.w := hB.trans (nq.ok.mono hB.size)
          go_wp2
          have q3 := pack_cell (q1 nq) (by have := nq.ok.size; omega)
          have q4 := pack_cell (q2 nq) (by have := nq.ok.size; omega)
          refine wp_region_pack (by kernel_rfl) (by kernel_rfl) ?_
          repeat (first | go_big_quiet_skip | (go_big_quiet_want; go_big_quiet_op; first | go_big_quiet_on | (apply Exists.intro; refine ⟨fun npk => ?_, ?_⟩; (focus (first | fail)); go_big_quiet_on)))
          refine wpQuiet_nil ?_
          intro nq
          go_wp2
          go_ret
          exact ⟨by rw [e1]; rfl, hB0.trans (nq.ok.mono hB0.size)⟩
end Go.Proofs.Ytdnccplmpgcleaa
