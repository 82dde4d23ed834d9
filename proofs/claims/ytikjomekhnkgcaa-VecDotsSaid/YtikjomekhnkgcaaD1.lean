import Derived.Test.YtikjomekhnkgcaaS
import Derived.Test.YtikjomekhnkgcaaV4
/- Sums of products, and sums: the code's. -/
namespace Go.Proofs.Ytikjomekhnkgcaa
open Go.RowKit
attribute [local go_sem ↓] Go.wp_at_zero Go.wp_at_succ

/-! ### what they come to -/
def dotI (xs ys : List Int) (f ap : Nat) : Nat → Int
  | 0 => 0
  | k + 1 => dotI xs ys f ap k + xs.getD k 0 * ys.getD (f + k * ap) 0
def totI (xs : List Int) : Nat → Int
  | 0 => 0
  | k + 1 => totI xs k + xs.getD k 0
theorem prod_bd {a b : Int} (ha : In64 a) (hb : In64 b) : -85070591730234615865843651857942052864 ≤ a * b ∧ a * b ≤ 85070591730234615865843651857942052864 := by
  unfold In64 at ha hb
  have a1 : absI a ≤ 9223372036854775808 := by unfold absI; split <;> omega
  have a2 : absI b ≤ 9223372036854775808 := by unfold absI; split <;> omega
  have a3 : absI a * absI b ≤ 9223372036854775808 * 9223372036854775808 := Int.mul_le_mul a1 a2 (absI_nonneg b) (by omega)
  rw [← absI_mul] at a3
  have := absI_cases (a * b)
  omega
theorem dotI_bd {xs ys : List Int} (hx : All64 xs) (hy : All64 ys) (f ap k : Nat) : -((k : Int) * 85070591730234615865843651857942052864) ≤ dotI xs ys f ap k ∧ dotI xs ys f ap k ≤ (k : Int) * 85070591730234615865843651857942052864 := by
  induction k with
  | zero => unfold dotI; omega
  | succ i ih =>
    have := prod_bd (hx i) (hy (f + i * ap))
    unfold dotI
    omega
theorem totI_bd {xs : List Int} (hx : All64 xs) (k : Nat) : -((k : Int) * 9223372036854775808) ≤ totI xs k ∧ totI xs k ≤ (k : Int) * 9223372036854775808 := by
  induction k with
  | zero => unfold totI; omega
  | succ i ih =>
    have := hx i
    unfold In64 at this
    unfold totI
    omega
theorem dotI_congr {xs ys zs vs : List Int} {f ap g aq : Nat} {n : Nat} (h : ∀ k, k < n → xs.getD k 0 * ys.getD (f + k * ap) 0 = zs.getD k 0 * vs.getD (g + k * aq) 0) : ∀ k, k ≤ n → dotI xs ys f ap k = dotI zs vs g aq k := by
  intro k hk
  induction k with
  | zero => rfl
  | succ i ih =>
    unfold dotI
    rw [ih (by omega), h i (by omega)]

/-! ### the code's dot -/
def DSt (w wr : World) (s : Int) : Prop :=
  wr.heap[w.heap.size + 1]? = some (.cells #[.int .i64 (tp s), .int .u64 (q1 s), .int .u64 (q0 s)] 83 (0, 0)) ∧ wr.heap[w.heap.size]? = some (.cells #[.int .i64 0, .int .u64 0, .int .u64 0] 83 (0, 0)) ∧ Below w.heap.size w wr
theorem DSt.call {w wr w' : World} {s : Int} (h : DSt w wr s) (hb : Below wr.heap.size wr w') : DSt w w' s := ⟨hp_call h.1 hb, hp_call h.2.1 hb, h.2.2.trans (hb.mono h.2.2.size)⟩
theorem DSt.store {w wr : World} {s t : Int} (h : DSt w wr s) : DSt w (((wr.setCell ⟨w.heap.size + 1, 0, none⟩ (.int .i64 (tp t))).setCell ⟨w.heap.size + 1, 1, none⟩ (.int .u64 (q1 t))).setCell ⟨w.heap.size + 1, 2, none⟩ (.int .u64 (q0 t))) t := by
  refine ⟨hp3_2 _ (hp3_1 _ (hp3_0 _ h.1)), ?_, ?_⟩
  · exact hp_set (hp_set (hp_set h.2.1 (by simp) _) (by simp) _) (by simp) _
  · exact ((h.2.2.setCell (by show w.heap.size ≤ w.heap.size + 1; omega) _).setCell (by show w.heap.size ≤ w.heap.size + 1; omega) _).setCell (by show w.heap.size ≤ w.heap.size + 1; omega) _
set_option maxHeartbeats 4000000 in
theorem dot_any (A B : Option Addr) (n cp m cq f ap : Nat) (xs ys : List Int) (w : World) (hn : n ≤ 65536) (hm : m ≤ 65536) (hA : Rd w none A n xs) (hB0 : Rd w none B m ys) (hx : All64 xs) (hy : All64 ys) (hin : ∀ k, k < n → f + k * ap < m) (_hap : ap ≤ 65536) :
    Calls Try.prog 50 #[.slice A n cp, .slice B m cq, .int .i64 f, .int .i64 ap] w fun e w' => e = .returned (.agg #[.int .i64 (tp (dotI xs ys f ap n)), .int .u64 (q1 (dotI xs ys f ap n)), .int .u64 (q0 (dotI xs ys f ap n))]) ∧ Below w.heap.size w w' := by
  have HA := Lib.hid hA
  have HB := Lib.hid hB0
  clear hA hB0
  go_enter Try.func50, Try.ntmps50
  go_wp2_with fail
  refine at_world fun W1 hW1 => ?_
  have HI : DSt w W1 0 := by
    subst hW1
    exact ⟨newest_at _ _ (by simp), hp_alloc (heap_alloc_new w _) _, (by repeat (first | (with_reducible exact Below.refl _ _) | (with_reducible assumption) | (with_reducible refine Below.drew ?_) | (with_reducible refine Below.alloc ?_ ?_ _) | (with_reducible refine Below.setCell ?_ ?_ _) | (with_reducible refine Below.trans ?_ (Below.mono hb ?_)) | (with_reducible refine Below.trans ?_ (Below.mono hb1 ?_)) | (with_reducible refine Below.trans ?_ (Below.mono hb2 ?_)) | (with_reducible refine Below.trans ?_ (Below.mono hb3 ?_)) | (with_reducible refine Below.trans ?_ (Below.mono hb4 ?_)) | (with_reducible refine Below.trans ?_ (Below.mono hb5 ?_)) | (with_reducible refine Below.trans ?_ (Below.mono hb6 ?_)) | (with_reducible refine Below.trans ?_ (Below.mono hb7 ?_)) | (with_reducible refine Below.trans ?_ (Below.mono hb8 ?_)) | (with_reducible refine Below.trans ?_ (Below.mono hb9 ?_)) | (focus (first | omega | (simp; done) | (simp; omega))) | exact hB))⟩
  clear hW1
  go_loopw [14] (fun i wr => ∃ k : Nat, k ≤ n ∧ i = .int .i64 k ∧ DSt w wr (dotI xs ys f ap k)) (fun i _ => n - (intOf i).toNat)
  case atStart => exact ⟨0, Nat.zero_le _, rfl, HI⟩
  case round =>
    clear HI
    obtain ⟨k, hk, rfl, hD⟩ := hrel
    have hB := hD.2.2
    have lX := lt_of_block hD.1
    have x0 := cell_of_row wr (w.heap.size + 1) 0 _ _ _ hD.1
    have x1 := cell_of_row wr (w.heap.size + 1) 1 _ _ _ hD.1
    have x2 := cell_of_row wr (w.heap.size + 1) 2 _ _ _ hD.1
    have xf : ∀ i, wr.frozen? ⟨w.heap.size + 1, i, none⟩ = false := fun i => by simp [World.frozen?, hD.1]
    simp only [List.getElem?_toArray, List.getElem?_cons_zero, List.getElem?_cons_succ] at x0 x1 x2
    by_cases hlt : k < n
    · have hi := hin k hlt
      obtain ⟨b1, o1, rfl, l1, _, c1⟩ := (HA.out.call hB).2 (by omega)
      obtain ⟨b2, o2, rfl, l2, _, c2⟩ := (HB.out.call hB).2 (by omega)
      replace c1 := c1 k hlt
      replace c2 := c2 (f + k * ap) hi
      have ia : (0 : Int) ≤ (k : Int) := by omega
      have ib : (k : Int) < (n : Int) := by omega
      have MU := Lib.hid (fun W => mul_any (xs.getD k 0) (ys.getD (f + k * ap) 0) (hx k) (hy _) W)
      have hbd := dotI_bd hx hy f ap (k + 1)
      have hpb := prod_bd (hx k) (hy (f + k * ap))
      have EX := Lib.hid (fun W => ext_any (xs.getD k 0 * ys.getD (f + k * ap) 0) (by unfold In128; omega) W)
      have PL := Lib.hid (fun W => lplus_any (dotI xs ys f ap k) (xs.getD k 0 * ys.getD (f + k * ap) 0) W)
      rw [show dotI xs ys f ap k + xs.getD k 0 * ys.getD (f + k * ap) 0 = dotI xs ys f ap (k + 1) from rfl, w192_id (show In192 (dotI xs ys f ap (k + 1)) by unfold In192; omega)] at PL
      obtain ⟨s', hs'⟩ : ∃ s', s' = dotI xs ys f ap (k + 1) := ⟨_, rfl⟩
      rw [← hs'] at PL
      have HS' := Lib.hid hs'
      have HD := Lib.hid hD
      clear hs' hbd hpb hD
      obtain ⟨q, hq⟩ : ∃ q, q = k * ap := ⟨_, rfl⟩
      have hq1 : (k : Int) * (ap : Int) = (q : Int) := by rw [hq, Int.natCast_mul]
      have i1 : IntKind.i64.wrap ((k : Int) * (ap : Int)) = (q : Int) := by rw [hq1]; exact IntWalk.i64_in _ (by rw [← hq] at hi; omega)
      rw [← hq] at hi c2 MU EX PL
      clear hq hq1
      have i2 : IntKind.i64.wrap ((f : Int) + (q : Int)) = (f : Int) + (q : Int) := IntWalk.i64_in _ (by omega)
      have i3 : (0 : Int) ≤ (f : Int) + (q : Int) := by omega
      have i4 : (f : Int) + (q : Int) < (m : Int) := by omega
      have i5 : ((f : Int) + (q : Int)).toNat = f + q := by omega
      generalize dotI xs ys f ap k = s at *
      generalize xs.getD k 0 * ys.getD (f + q) 0 = pr at *
      generalize xs.getD k 0 = x at *
      generalize ys.getD (f + q) 0 = y at *
      go_wp2_with fail
      go_region_with (first
          | (go_at_call 67; refine (MU.out _).mono ?_; rintro e y1 ⟨rfl, hb1⟩; replace hb1 := undrew hb1; obtain ⟨hc1, hf1, hz1⟩ := bcell hb1; have k1 : w.heap.size + 1 < y1.heap.size := by omega)
          | (go_at_call 89; refine (EX.out _).mono ?_; rintro e y2 ⟨rfl, hb2⟩; obtain ⟨hc2, hf2, hz2⟩ := bcell hb2; have k2 : w.heap.size + 1 < y2.heap.size := by omega)
          | (go_at_call 88; refine (PL.out _).mono ?_; rintro e y3 ⟨rfl, hb3⟩; obtain ⟨hc3, hf3, hz3⟩ := bcell hb3; have k3 : w.heap.size + 1 < y3.heap.size := by omega))
      all_goals
        go_wp2_with fail
        go_roundw
        case rel => exact ⟨k + 1, by omega, by simp, by rw [← HS'.out]; exact (((HD.out.call hb1).call hb2).call hb3).store⟩
        case measure => simp [intOf]; omega
    · obtain rfl : k = n := by omega
      have r0 := cell_of_row wr w.heap.size 0 _ _ _ hD.2.1
      have r1 := cell_of_row wr w.heap.size 1 _ _ _ hD.2.1
      have r2 := cell_of_row wr w.heap.size 2 _ _ _ hD.2.1
      have rf : ∀ i, wr.frozen? ⟨w.heap.size, i, none⟩ = false := fun i => by simp [World.frozen?, hD.2.1]
      simp only [List.getElem?_toArray, List.getElem?_cons_zero, List.getElem?_cons_succ] at r0 r1 r2
      clear hD
      go_wp2_with fail
      exact bodyPost_ret (v := .agg #[.int .i64 (tp (dotI xs ys f ap k)), .int .u64 (q1 (dotI xs ys f ap k)), .int .u64 (q0 (dotI xs ys f ap k))]) (by simp [*, results, Try.results50, go_sem]) rfl ⟨rfl, (by repeat (first | (with_reducible exact Below.refl _ _) | (with_reducible assumption) | (with_reducible refine Below.drew ?_) | (with_reducible refine Below.alloc ?_ ?_ _) | (with_reducible refine Below.setCell ?_ ?_ _) | (with_reducible refine Below.trans ?_ (Below.mono hb ?_)) | (with_reducible refine Below.trans ?_ (Below.mono hb1 ?_)) | (with_reducible refine Below.trans ?_ (Below.mono hb2 ?_)) | (with_reducible refine Below.trans ?_ (Below.mono hb3 ?_)) | (with_reducible refine Below.trans ?_ (Below.mono hb4 ?_)) | (with_reducible refine Below.trans ?_ (Below.mono hb5 ?_)) | (with_reducible refine Below.trans ?_ (Below.mono hb6 ?_)) | (with_reducible refine Below.trans ?_ (Below.mono hb7 ?_)) | (with_reducible refine Below.trans ?_ (Below.mono hb8 ?_)) | (with_reducible refine Below.trans ?_ (Below.mono hb9 ?_)) | (focus (first | omega | (simp; done) | (simp; omega))) | exact hB))⟩
end Go.Proofs.Ytikjomekhnkgcaa
