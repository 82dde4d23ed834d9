import Derived.Test.YtikjomekhnkgcaaH3
import Derived.Test.YtikjomekhnkgcaaG9
import Derived.Test.YtikjomekhnkgcaaD2
/- The reference's dots, sums and means. -/
namespace Go.Proofs.Ytikjomekhnkgcaa
open Go.RowKit
attribute [local go_sem ↓] Go.wp_at_zero Go.wp_at_succ

/-! ### what is above 0, what is below -/
def posF (f : Nat → Int) : Nat → Int
  | 0 => 0
  | k + 1 => posF f k + posP (f k)
def negF (f : Nat → Int) : Nat → Int
  | 0 => 0
  | k + 1 => negF f k + negP (f k)
def sumP (f : Nat → Int) : Nat → Int
  | 0 => 0
  | k + 1 => sumP f k + f k
theorem pos_negF (f : Nat → Int) (k : Nat) : posF f k - negF f k = sumP f k := by
  induction k with
  | zero => rfl
  | succ i ih =>
    have e : posP (f i) - negP (f i) = f i := by unfold posP negP; split <;> omega
    unfold posF negF sumP
    omega
theorem pn_bd {f : Nat → Int} (h : ∀ k, -85070591730234615865843651857942052864 ≤ f k ∧ f k ≤ 85070591730234615865843651857942052864) (k : Nat) (hk : k ≤ 65536) : BIG (posF f k) ∧ BIG (negF f k) := by
  have key : (0 ≤ posF f k ∧ posF f k ≤ (k : Int) * 85070591730234615865843651857942052864) ∧ (0 ≤ negF f k ∧ negF f k ≤ (k : Int) * 85070591730234615865843651857942052864) := by
    clear hk
    induction k with
    | zero => simp [posF, negF]
    | succ i ih =>
      have hi := h i
      have e : (0 ≤ posP (f i) ∧ posP (f i) ≤ 85070591730234615865843651857942052864) ∧ (0 ≤ negP (f i) ∧ negP (f i) ≤ 85070591730234615865843651857942052864) := by unfold posP negP; split <;> omega
      unfold posF negF
      omega
  unfold BIG
  omega
def prF (xs ys : List Int) (k : Nat) : Int := xs.getD k 0 * ys.getD k 0
def xF (xs : List Int) (k : Nat) : Int := xs.getD k 0
theorem sumP_dot (xs ys : List Int) (n : Nat) : sumP (prF xs ys) n = dotI xs ys 0 1 n := by
  induction n with
  | zero => rfl
  | succ i ih => unfold sumP dotI prF; rw [Nat.mul_one, Nat.zero_add]; unfold prF at ih; rw [ih]
theorem sumP_tot (xs : List Int) (n : Nat) : sumP (xF xs) n = totI xs n := by
  induction n with
  | zero => rfl
  | succ i ih => unfold sumP totI xF; unfold xF at ih; rw [ih]

/-- The sum that is made, in a block of its own. -/
def DR (w wr : World) (p n : Int) : Prop := wr.heap[w.heap.size]? = some (.cells #[.int .u64 (dg 0 (p)), .int .u64 (dg 1 (p)), .int .u64 (dg 2 (p)), .int .u64 (dg 3 (p)), .int .u64 (dg 4 (p)), .int .u64 (dg 5 (p)), .int .u64 (dg 0 (n)), .int .u64 (dg 1 (n)), .int .u64 (dg 2 (n)), .int .u64 (dg 3 (n)), .int .u64 (dg 4 (n)), .int .u64 (dg 5 (n))] 104 (0, 0)) ∧ Below w.heap.size w wr
theorem DR.call {w wr w' : World} {p n : Int} (h : DR w wr p n) (hb : Below wr.heap.size wr w') : DR w w' p n := ⟨hp_call h.1 hb, h.2.trans (hb.mono h.2.size)⟩
theorem set12 {w : World} {g : Nat} {T : TypeId} {a0 a1 a2 a3 a4 a5 a6 a7 a8 a9 a10 a11 : Value} (v0 v1 v2 v3 v4 v5 v6 v7 v8 v9 v10 v11 : Value) (h : w.heap[g]? = some (.cells #[a0, a1, a2, a3, a4, a5, a6, a7, a8, a9, a10, a11] T (0, 0))) :
    ((((((((((((w.setCell ⟨g, 0, none⟩ v0).setCell ⟨g, 1, none⟩ v1).setCell ⟨g, 2, none⟩ v2).setCell ⟨g, 3, none⟩ v3).setCell ⟨g, 4, none⟩ v4).setCell ⟨g, 5, none⟩ v5).setCell ⟨g, 6, none⟩ v6).setCell ⟨g, 7, none⟩ v7).setCell ⟨g, 8, none⟩ v8).setCell ⟨g, 9, none⟩ v9).setCell ⟨g, 10, none⟩ v10).setCell ⟨g, 11, none⟩ v11).heap[g]? = some (.cells #[v0, v1, v2, v3, v4, v5, v6, v7, v8, v9, v10, v11] T (0, 0)) :=
  setHi v6 v7 v8 v9 v10 v11 (setLo v0 v1 v2 v3 v4 v5 h)
theorem DR.store {w wr : World} {p n p' n' : Int} (h : DR w wr p n) :
    DR w ((((((((((((wr.setCell ⟨w.heap.size, 0, none⟩ (.int .u64 (dg 0 p'))).setCell ⟨w.heap.size, 1, none⟩ (.int .u64 (dg 1 p'))).setCell ⟨w.heap.size, 2, none⟩ (.int .u64 (dg 2 p'))).setCell ⟨w.heap.size, 3, none⟩ (.int .u64 (dg 3 p'))).setCell ⟨w.heap.size, 4, none⟩ (.int .u64 (dg 4 p'))).setCell ⟨w.heap.size, 5, none⟩ (.int .u64 (dg 5 p'))).setCell ⟨w.heap.size, 6, none⟩ (.int .u64 (dg 0 n'))).setCell ⟨w.heap.size, 7, none⟩ (.int .u64 (dg 1 n'))).setCell ⟨w.heap.size, 8, none⟩ (.int .u64 (dg 2 n'))).setCell ⟨w.heap.size, 9, none⟩ (.int .u64 (dg 3 n'))).setCell ⟨w.heap.size, 10, none⟩ (.int .u64 (dg 4 n'))).setCell ⟨w.heap.size, 11, none⟩ (.int .u64 (dg 5 n'))) p' n' := by
  refine ⟨set12 _ _ _ _ _ _ _ _ _ _ _ _ h.1, ?_⟩
  exact h.2.trans (((((((bel_d _ wr ⟨w.heap.size, 0, none⟩ _ (Nat.le_refl _)).trans (bel_d _ _ ⟨w.heap.size, 1, none⟩ _ (Nat.le_refl _))).trans (bel_d _ _ ⟨w.heap.size, 2, none⟩ _ (Nat.le_refl _))).trans (bel_d _ _ ⟨w.heap.size, 3, none⟩ _ (Nat.le_refl _))).trans (bel_d _ _ ⟨w.heap.size, 4, none⟩ _ (Nat.le_refl _))).trans (bel_d _ _ ⟨w.heap.size, 5, none⟩ _ (Nat.le_refl _))).trans (setHi_below _ _ _ _ _ _ (Nat.le_refl _)))
/-- A number of the reference's unit. -/
def GotU (w : World) (g : Nat) (c : Int) (v : Int) (m : Int) (e : Ending) (w' : World) : Prop := e = .returned (.int .i64 v) ∧ w.grownBy w' (some g) ∧ Unr w' g (c + m)

set_option maxHeartbeats 4000000 in
theorem rdot_any (g : Nat) (c : Int) (A B : Option Addr) (n cp cq : Nat) (xs ys : List Int) (w : World) (hn : n ≤ 65536) (hA : Rd w none A n xs) (hB0 : Rd w none B n ys) (hx : All64 xs) (hy : All64 ys) (hU : Unr w g c) (hc0 : 0 ≤ c) (hc : c < 1000000000) :
    Calls Try.prog 41 #[.pointer (some ⟨g, 0, none⟩), .slice A n cp, .slice B n cq] w (GotU w g c (clampI (rnd (dotI xs ys 0 1 n) 4294967296)) (ov (overI (rnd (dotI xs ys 0 1 n) 4294967296)))) := by
  have hbd : ∀ k, -85070591730234615865843651857942052864 ≤ (prF xs ys) k ∧ (prF xs ys) k ≤ 85070591730234615865843651857942052864 := fun k => mul64_bd (hx k) (hy k)
  have hbig := pn_bd hbd n hn
  have hpn : posF (prF xs ys) n - negF (prF xs ys) n = dotI xs ys 0 1 n := by rw [pos_negF, sumP_dot]
  have RR := Lib.hid (fun W => r32_any _ _ (dotI xs ys 0 1 n) hbig.1 hbig.2 hpn W)
  have TK := Lib.hid (fun W hU' => rtake_any g c (clampI (rnd (dotI xs ys 0 1 n) 4294967296)) (overI (rnd (dotI xs ys 0 1 n) 4294967296)) W hU' hc0 hc)
  have HA := Lib.hid hA
  have HB := Lib.hid hB0
  have HU := Lib.hid hU
  have hgl := hU.lt
  clear hA hbd hbig hpn hU hB0
  generalize clampI (rnd (dotI xs ys 0 1 n) 4294967296) = cv at *
  generalize overI (rnd (dotI xs ys 0 1 n) 4294967296) = co at *
  go_enter Try.func41, Try.ntmps41
  go_wp2_with fail
  refine at_world fun W1 hW1 => ?_
  have HI : DR w W1 (posF (prF xs ys) 0) (negF (prF xs ys) 0) := by
    subst hW1
    refine ⟨?_, (by repeat (first | (with_reducible exact Below.refl _ _) | (with_reducible assumption) | (with_reducible refine Below.drew ?_) | (with_reducible refine Below.alloc ?_ ?_ _) | (with_reducible refine Below.setCell ?_ ?_ _) | (with_reducible refine Below.trans ?_ (Below.mono hb ?_)) | (with_reducible refine Below.trans ?_ (Below.mono hb1 ?_)) | (with_reducible refine Below.trans ?_ (Below.mono hb2 ?_)) | (with_reducible refine Below.trans ?_ (Below.mono hb3 ?_)) | (with_reducible refine Below.trans ?_ (Below.mono hb4 ?_)) | (with_reducible refine Below.trans ?_ (Below.mono hb5 ?_)) | (with_reducible refine Below.trans ?_ (Below.mono hb6 ?_)) | (with_reducible refine Below.trans ?_ (Below.mono hb7 ?_)) | (with_reducible refine Below.trans ?_ (Below.mono hb8 ?_)) | (with_reducible refine Below.trans ?_ (Below.mono hb9 ?_)) | (focus (first | omega | (simp; done) | (simp; omega))) | exact hB))⟩
    simp only [posF, negF, dg_zero]
    exact heap_alloc_new w _
  clear hW1
  go_loopw [8] (fun i wr => ∃ k : Nat, k ≤ n ∧ i = .int .i64 k ∧ DR w wr (posF (prF xs ys) k) (negF (prF xs ys) k)) (fun i _ => n - (intOf i).toNat)
  case atStart => exact ⟨0, Nat.zero_le _, rfl, HI⟩
  case round =>
    clear HI
    obtain ⟨k, hk, rfl, hD⟩ := hrel
    have hB := hD.2
    have lX := lt_of_block hD.1
    have x0 := cell_of_row wr w.heap.size 0 _ _ _ hD.1
    have x1 := cell_of_row wr w.heap.size 1 _ _ _ hD.1
    have x2 := cell_of_row wr w.heap.size 2 _ _ _ hD.1
    have x3 := cell_of_row wr w.heap.size 3 _ _ _ hD.1
    have x4 := cell_of_row wr w.heap.size 4 _ _ _ hD.1
    have x5 := cell_of_row wr w.heap.size 5 _ _ _ hD.1
    have x6 := cell_of_row wr w.heap.size 6 _ _ _ hD.1
    have x7 := cell_of_row wr w.heap.size 7 _ _ _ hD.1
    have x8 := cell_of_row wr w.heap.size 8 _ _ _ hD.1
    have x9 := cell_of_row wr w.heap.size 9 _ _ _ hD.1
    have x10 := cell_of_row wr w.heap.size 10 _ _ _ hD.1
    have x11 := cell_of_row wr w.heap.size 11 _ _ _ hD.1
    have xf : ∀ i, wr.frozen? ⟨w.heap.size, i, none⟩ = false := fun i => by simp [World.frozen?, hD.1]
    simp only [List.getElem?_toArray, List.getElem?_cons_zero, List.getElem?_cons_succ] at x0 x1 x2 x3 x4 x5 x6 x7 x8 x9 x10 x11
    have HD := Lib.hid hD
    clear hD
    by_cases hlt : k < n
    · obtain ⟨b1, o1, rfl, l1, _, c1⟩ := (HA.out.call hB).2 (by omega)
      replace c1 := c1 k hlt
      obtain ⟨b2, o2, rfl, l2, _, c2⟩ := (HB.out.call hB).2 (by omega)
      replace c2 := c2 k hlt
      have ia : (0 : Int) ≤ (k : Int) := by omega
      have ib : (k : Int) < (n : Int) := by omega
      have SM := Lib.hid (fun W => smul_any (posF (prF xs ys) k) (negF (prF xs ys) k) (xs.getD k 0) (ys.getD k 0) (hx k) (hy k) W)
      rw [show xs.getD k 0 * ys.getD k 0 = prF xs ys k from rfl, show posF (prF xs ys) k + posP (prF xs ys k) = posF (prF xs ys) (k + 1) from rfl, show negF (prF xs ys) k + negP (prF xs ys k) = negF (prF xs ys) (k + 1) from rfl] at SM
      obtain ⟨p', hp'⟩ : ∃ p', p' = posF (prF xs ys) (k + 1) := ⟨_, rfl⟩
      obtain ⟨n', hn'⟩ : ∃ n', n' = negF (prF xs ys) (k + 1) := ⟨_, rfl⟩
      rw [← hp', ← hn'] at SM
      have HP := Lib.hid hp'
      have HN := Lib.hid hn'
      clear hp' hn'
      generalize posF (prF xs ys) k = p at *
      generalize negF (prF xs ys) k = q at *
      generalize xs.getD k 0 = x at *
      generalize ys.getD k 0 = y at *
      go_wp2_with fail
      go_region_with (go_at_call 74; refine (SM.out _).mono ?_; rintro e y1 ⟨rfl, hb1⟩; replace hb1 := undrew hb1; obtain ⟨hc1, hf1, hz1⟩ := bcell hb1; have k1 : w.heap.size < y1.heap.size := by omega)
      all_goals
        go_wp2_with fail
        go_roundw
        case rel => exact ⟨k + 1, by omega, by simp, by rw [← HP.out, ← HN.out]; exact (HD.out.call hb1).store⟩
        case measure => simp [intOf]; omega
    · obtain rfl : k = n := by omega
      have hU2 := HU.out.low hB hgl
      clear HD
      go_wp2_with (first
        | (go_at_call 76; refine (RR.out _).mono ?_; rintro e y1 ⟨rfl, hb1⟩; have z1 := hb1.size)
        | (go_at_call 60; refine (TK.out _ (hU2.call hb1)).mono ?_; rintro e y2 ⟨rfl, hg2, hU3⟩))
      go_ret
      exact ⟨rfl, gr_trans (gr_below (hB.trans (hb1.mono hB.size)) _) hg2, hU3⟩

set_option maxHeartbeats 4000000 in
theorem rsum_any (g : Nat) (c : Int) (A : Option Addr) (n cp : Nat) (xs : List Int) (w : World) (hn : n ≤ 65536) (hA : Rd w none A n xs) (hx : All64 xs) (hU : Unr w g c) (hc0 : 0 ≤ c) (hc : c < 1000000000) :
    Calls Try.prog 42 #[.pointer (some ⟨g, 0, none⟩), .slice A n cp] w (GotU w g c (clampI (totI xs n)) (ov (overI (totI xs n)))) := by
  have hbd : ∀ k, -85070591730234615865843651857942052864 ≤ (xF xs) k ∧ (xF xs) k ≤ 85070591730234615865843651857942052864 := fun k => by have := hx k; unfold In64 at this; unfold xF; omega
  have hbig := pn_bd hbd n hn
  have hpn : posF (xF xs) n - negF (xF xs) n = totI xs n := by rw [pos_negF, sumP_tot]
  have RR := Lib.hid (fun W => r0_any _ _ (totI xs n) hbig.1 hbig.2 hpn W)
  have TK := Lib.hid (fun W hU' => rtake_any g c (clampI (totI xs n)) (overI (totI xs n)) W hU' hc0 hc)
  have HA := Lib.hid hA
  have HU := Lib.hid hU
  have hgl := hU.lt
  clear hA hbd hbig hpn hU
  generalize clampI (totI xs n) = cv at *
  generalize overI (totI xs n) = co at *
  go_enter Try.func42, Try.ntmps42
  go_wp2_with fail
  refine at_world fun W1 hW1 => ?_
  have HI : DR w W1 (posF (xF xs) 0) (negF (xF xs) 0) := by
    subst hW1
    refine ⟨?_, (by repeat (first | (with_reducible exact Below.refl _ _) | (with_reducible assumption) | (with_reducible refine Below.drew ?_) | (with_reducible refine Below.alloc ?_ ?_ _) | (with_reducible refine Below.setCell ?_ ?_ _) | (with_reducible refine Below.trans ?_ (Below.mono hb ?_)) | (with_reducible refine Below.trans ?_ (Below.mono hb1 ?_)) | (with_reducible refine Below.trans ?_ (Below.mono hb2 ?_)) | (with_reducible refine Below.trans ?_ (Below.mono hb3 ?_)) | (with_reducible refine Below.trans ?_ (Below.mono hb4 ?_)) | (with_reducible refine Below.trans ?_ (Below.mono hb5 ?_)) | (with_reducible refine Below.trans ?_ (Below.mono hb6 ?_)) | (with_reducible refine Below.trans ?_ (Below.mono hb7 ?_)) | (with_reducible refine Below.trans ?_ (Below.mono hb8 ?_)) | (with_reducible refine Below.trans ?_ (Below.mono hb9 ?_)) | (focus (first | omega | (simp; done) | (simp; omega))) | exact hB))⟩
    simp only [posF, negF, dg_zero]
    exact heap_alloc_new w _
  clear hW1
  go_loopw [6] (fun i wr => ∃ k : Nat, k ≤ n ∧ i = .int .i64 k ∧ DR w wr (posF (xF xs) k) (negF (xF xs) k)) (fun i _ => n - (intOf i).toNat)
  case atStart => exact ⟨0, Nat.zero_le _, rfl, HI⟩
  case round =>
    clear HI
    obtain ⟨k, hk, rfl, hD⟩ := hrel
    have hB := hD.2
    have lX := lt_of_block hD.1
    have x0 := cell_of_row wr w.heap.size 0 _ _ _ hD.1
    have x1 := cell_of_row wr w.heap.size 1 _ _ _ hD.1
    have x2 := cell_of_row wr w.heap.size 2 _ _ _ hD.1
    have x3 := cell_of_row wr w.heap.size 3 _ _ _ hD.1
    have x4 := cell_of_row wr w.heap.size 4 _ _ _ hD.1
    have x5 := cell_of_row wr w.heap.size 5 _ _ _ hD.1
    have x6 := cell_of_row wr w.heap.size 6 _ _ _ hD.1
    have x7 := cell_of_row wr w.heap.size 7 _ _ _ hD.1
    have x8 := cell_of_row wr w.heap.size 8 _ _ _ hD.1
    have x9 := cell_of_row wr w.heap.size 9 _ _ _ hD.1
    have x10 := cell_of_row wr w.heap.size 10 _ _ _ hD.1
    have x11 := cell_of_row wr w.heap.size 11 _ _ _ hD.1
    have xf : ∀ i, wr.frozen? ⟨w.heap.size, i, none⟩ = false := fun i => by simp [World.frozen?, hD.1]
    simp only [List.getElem?_toArray, List.getElem?_cons_zero, List.getElem?_cons_succ] at x0 x1 x2 x3 x4 x5 x6 x7 x8 x9 x10 x11
    have HD := Lib.hid hD
    clear hD
    by_cases hlt : k < n
    · obtain ⟨b1, o1, rfl, l1, _, c1⟩ := (HA.out.call hB).2 (by omega)
      replace c1 := c1 k hlt
      have ia : (0 : Int) ≤ (k : Int) := by omega
      have ib : (k : Int) < (n : Int) := by omega
      have SM := Lib.hid (fun W => sadd_any (posF (xF xs) k) (negF (xF xs) k) (xs.getD k 0) 0 (hx k) (by omega) (by omega) W)
      rw [upB_zero, upB_zero, show posF (xF xs) k + posP (xs.getD k 0) = posF (xF xs) (k + 1) from rfl, show negF (xF xs) k + negP (xs.getD k 0) = negF (xF xs) (k + 1) from rfl] at SM
      obtain ⟨p', hp'⟩ : ∃ p', p' = posF (xF xs) (k + 1) := ⟨_, rfl⟩
      obtain ⟨n', hn'⟩ : ∃ n', n' = negF (xF xs) (k + 1) := ⟨_, rfl⟩
      rw [← hp', ← hn'] at SM
      have HP := Lib.hid hp'
      have HN := Lib.hid hn'
      clear hp' hn'
      generalize posF (xF xs) k = p at *
      generalize negF (xF xs) k = q at *
      generalize xs.getD k 0 = x at *
      go_wp2_with fail
      go_region_with (go_at_call 75; refine (SM.out _).mono ?_; rintro e y1 ⟨rfl, hb1⟩; replace hb1 := undrew hb1; obtain ⟨hc1, hf1, hz1⟩ := bcell hb1; have k1 : w.heap.size < y1.heap.size := by omega)
      all_goals
        go_wp2_with fail
        go_roundw
        case rel => exact ⟨k + 1, by omega, by simp, by rw [← HP.out, ← HN.out]; exact (HD.out.call hb1).store⟩
        case measure => simp [intOf]; omega
    · obtain rfl : k = n := by omega
      have hU2 := HU.out.low hB hgl
      clear HD
      go_wp2_with (first
        | (go_at_call 76; refine (RR.out _).mono ?_; rintro e y1 ⟨rfl, hb1⟩; have z1 := hb1.size)
        | (go_at_call 60; refine (TK.out _ (hU2.call hb1)).mono ?_; rintro e y2 ⟨rfl, hg2, hU3⟩))
      go_ret
      exact ⟨rfl, gr_trans (gr_below (hB.trans (hb1.mono hB.size)) _) hg2, hU3⟩

set_option maxHeartbeats 4000000 in
theorem rmean_any (g : Nat) (c : Int) (A : Option Addr) (n cp : Nat) (xs : List Int) (w : World) (hn : n ≤ 65536) (hn0 : 0 < n) (hA : Rd w none A n xs) (hx : All64 xs) (hU : Unr w g c) (hc0 : 0 ≤ c) (hc : c < 1000000000) :
    Calls Try.prog 43 #[.pointer (some ⟨g, 0, none⟩), .slice A n cp] w (GotU w g c (clampI (quoI (totI xs n) n)) (ov (overI (quoI (totI xs n) n)))) := by
  have hbd : ∀ k, -85070591730234615865843651857942052864 ≤ (xF xs) k ∧ (xF xs) k ≤ 85070591730234615865843651857942052864 := fun k => by have := hx k; unfold In64 at this; unfold xF; omega
  have hbig := pn_bd hbd n hn
  have hpn : posF (xF xs) n - negF (xF xs) n = totI xs n := by rw [pos_negF, sumP_tot]
  have RR := Lib.hid (fun W => quo02_any _ _ (n : Int) hbig.1 hbig.2 (by unfold In64; omega) (by omega) W)
  rw [hpn] at RR
  have TK := Lib.hid (fun W hU' => rtake_any g c (clampI (quoI (totI xs n) n)) (overI (quoI (totI xs n) n)) W hU' hc0 hc)
  have HA := Lib.hid hA
  have HU := Lib.hid hU
  have hgl := hU.lt
  clear hA hbd hbig hpn hU
  generalize clampI (quoI (totI xs n) n) = cv at *
  generalize overI (quoI (totI xs n) n) = co at *
  go_enter Try.func43, Try.ntmps43
  go_wp2_with fail
  refine at_world fun W1 hW1 => ?_
  have HI : DR w W1 (posF (xF xs) 0) (negF (xF xs) 0) := by
    subst hW1
    refine ⟨?_, (by repeat (first | (with_reducible exact Below.refl _ _) | (with_reducible assumption) | (with_reducible refine Below.drew ?_) | (with_reducible refine Below.alloc ?_ ?_ _) | (with_reducible refine Below.setCell ?_ ?_ _) | (with_reducible refine Below.trans ?_ (Below.mono hb ?_)) | (with_reducible refine Below.trans ?_ (Below.mono hb1 ?_)) | (with_reducible refine Below.trans ?_ (Below.mono hb2 ?_)) | (with_reducible refine Below.trans ?_ (Below.mono hb3 ?_)) | (with_reducible refine Below.trans ?_ (Below.mono hb4 ?_)) | (with_reducible refine Below.trans ?_ (Below.mono hb5 ?_)) | (with_reducible refine Below.trans ?_ (Below.mono hb6 ?_)) | (with_reducible refine Below.trans ?_ (Below.mono hb7 ?_)) | (with_reducible refine Below.trans ?_ (Below.mono hb8 ?_)) | (with_reducible refine Below.trans ?_ (Below.mono hb9 ?_)) | (focus (first | omega | (simp; done) | (simp; omega))) | exact hB))⟩
    simp only [posF, negF, dg_zero]
    exact heap_alloc_new w _
  clear hW1
  go_loopw [6] (fun i wr => ∃ k : Nat, k ≤ n ∧ i = .int .i64 k ∧ DR w wr (posF (xF xs) k) (negF (xF xs) k)) (fun i _ => n - (intOf i).toNat)
  case atStart => exact ⟨0, Nat.zero_le _, rfl, HI⟩
  case round =>
    clear HI
    obtain ⟨k, hk, rfl, hD⟩ := hrel
    have hB := hD.2
    have lX := lt_of_block hD.1
    have x0 := cell_of_row wr w.heap.size 0 _ _ _ hD.1
    have x1 := cell_of_row wr w.heap.size 1 _ _ _ hD.1
    have x2 := cell_of_row wr w.heap.size 2 _ _ _ hD.1
    have x3 := cell_of_row wr w.heap.size 3 _ _ _ hD.1
    have x4 := cell_of_row wr w.heap.size 4 _ _ _ hD.1
    have x5 := cell_of_row wr w.heap.size 5 _ _ _ hD.1
    have x6 := cell_of_row wr w.heap.size 6 _ _ _ hD.1
    have x7 := cell_of_row wr w.heap.size 7 _ _ _ hD.1
    have x8 := cell_of_row wr w.heap.size 8 _ _ _ hD.1
    have x9 := cell_of_row wr w.heap.size 9 _ _ _ hD.1
    have x10 := cell_of_row wr w.heap.size 10 _ _ _ hD.1
    have x11 := cell_of_row wr w.heap.size 11 _ _ _ hD.1
    have xf : ∀ i, wr.frozen? ⟨w.heap.size, i, none⟩ = false := fun i => by simp [World.frozen?, hD.1]
    simp only [List.getElem?_toArray, List.getElem?_cons_zero, List.getElem?_cons_succ] at x0 x1 x2 x3 x4 x5 x6 x7 x8 x9 x10 x11
    have HD := Lib.hid hD
    clear hD
    by_cases hlt : k < n
    · obtain ⟨b1, o1, rfl, l1, _, c1⟩ := (HA.out.call hB).2 (by omega)
      replace c1 := c1 k hlt
      have ia : (0 : Int) ≤ (k : Int) := by omega
      have ib : (k : Int) < (n : Int) := by omega
      have SM := Lib.hid (fun W => sadd_any (posF (xF xs) k) (negF (xF xs) k) (xs.getD k 0) 0 (hx k) (by omega) (by omega) W)
      rw [upB_zero, upB_zero, show posF (xF xs) k + posP (xs.getD k 0) = posF (xF xs) (k + 1) from rfl, show negF (xF xs) k + negP (xs.getD k 0) = negF (xF xs) (k + 1) from rfl] at SM
      obtain ⟨p', hp'⟩ : ∃ p', p' = posF (xF xs) (k + 1) := ⟨_, rfl⟩
      obtain ⟨n', hn'⟩ : ∃ n', n' = negF (xF xs) (k + 1) := ⟨_, rfl⟩
      rw [← hp', ← hn'] at SM
      have HP := Lib.hid hp'
      have HN := Lib.hid hn'
      clear hp' hn'
      generalize posF (xF xs) k = p at *
      generalize negF (xF xs) k = q at *
      generalize xs.getD k 0 = x at *
      go_wp2_with fail
      go_region_with (go_at_call 75; refine (SM.out _).mono ?_; rintro e y1 ⟨rfl, hb1⟩; replace hb1 := undrew hb1; obtain ⟨hc1, hf1, hz1⟩ := bcell hb1; have k1 : w.heap.size < y1.heap.size := by omega)
      all_goals
        go_wp2_with fail
        go_roundw
        case rel => exact ⟨k + 1, by omega, by simp, by rw [← HP.out, ← HN.out]; exact (HD.out.call hb1).store⟩
        case measure => simp [intOf]; omega
    · obtain rfl : k = n := by omega
      have hU2 := HU.out.low hB hgl
      clear HD
      go_wp2_with (first
        | (go_at_call 79; refine (RR.out _).mono ?_; rintro e y1 ⟨rfl, hb1⟩; have z1 := hb1.size)
        | (go_at_call 60; refine (TK.out _ (hU2.call hb1)).mono ?_; rintro e y2 ⟨rfl, hg2, hU3⟩))
      go_ret
      exact ⟨rfl, gr_trans (gr_below (hB.trans (hb1.mono hB.size)) _) hg2, hU3⟩
end Go.Proofs.Ytikjomekhnkgcaa
