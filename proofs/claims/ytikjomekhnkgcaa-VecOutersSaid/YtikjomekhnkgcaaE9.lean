import Derived.Test.YtikjomekhnkgcaaE8
/- The matrix of all products: the reference's. -/
namespace Go.Proofs.Ytikjomekhnkgcaa
open Go.RowKit
attribute [local go_sem ↓] Go.wp_at_zero Go.wp_at_succ

def OUR (w wr : World) (T g : Nat) (c : Int) (n m : Nat) (xs ys : List Int) (k : Nat) (V : Value) : Prop :=
  wr.heap[T]? = some (.cells #[.int .i64 n, .int .i64 m, V] 46 (0, 0)) ∧ OwnI (T + 1) wr V (outL xs ys m k) ∧ w.grownBy wr (some g) ∧ Unr wr g (c + outC xs ys m k) ∧
    wr.heap[w.heap.size]? = some (.cells #[.int .i64 0, .int .i64 0, .slice none 0 0] 46 (0, 0)) ∧ w.heap.size < T
theorem OUR.next {w wr y1 w5 : World} {T g : Nat} {c : Int} {n m : Nat} {xs ys : List Int} {k : Nat} {V v' : Value} {x : Int} {a0 a1 a2 : Value}
    (hT : wr.heap[T]? = some (.cells #[.int .i64 n, .int .i64 m, V] 46 (0, 0))) (hO : OwnI (T + 1) wr V (outL xs ys m k)) (hG : w.grownBy wr (some g))
    (hR : wr.heap[w.heap.size]? = some (.cells #[.int .i64 0, .int .i64 0, .slice none 0 0] 46 (0, 0))) (hwT : w.heap.size < T) (hul : g < w.heap.size) (hg1 : wr.drew.grownBy y1 (some g)) (hU1 : Unr y1 g (c + outC xs ys m k + cntI (mulV x ys) m))
    (hown : w5.ownsRow (T + 1) 2 1 v' (k * m + m) ((outL xs ys m k).map iv ++ (rowI (mulV x ys) m).map iv)) (hg5 : y1.grownBy w5 V.ownBlock) (b5 : w5.heap[T]? = some (.cells #[a0, a1, a2] 46 (0, 0))) (hx : x = xs.getD k 0) (e0 : a0 = .int .i64 n := by rfl) (e1 : a1 = .int .i64 m := by rfl) :
    OUR w (w5.setCell ⟨T, 2, none⟩ v') T g c n m xs ys (k + 1) v' := by
  subst hx e0 e1
  have hv : ∀ q, V.ownBlock = some q → T + 1 ≤ q := fun q e => (World.ownsRow.lt (hO.row (outL_len _ _ _ _)) q e).1
  have lT := lt_of_block hT
  have hg1' : wr.grownBy y1 (some g) := gr_trans (gr_drew (World.grownBy.refl wr (some g))) hg1
  have hb5 : Below (T + 1) y1 w5 := ⟨hg5.os, hg5.tape, hg5.output, hg5.size, fun j hj => hg5.block j (by have := hg1'.size; omega) (fun e => by have := hv j e.symm; omega)⟩
  refine ⟨hp3_2 _ b5, ?_, ?_, ?_, ?_, hwT⟩
  · refine OwnI.setBelow ?_ (show T < T + 1 by omega) _
    unfold OwnI outL
    rw [List.length_append, outL_len, rowI_length, List.map_append]
    exact hown
  · exact gr_set (gr_low (gr_trans hG hg1') (hb5.mono (by omega))) (show w.heap.size ≤ T by omega) _
  · refine Unr.setc ?_ (show g ≠ T by omega) _
    unfold outC
    rw [← Int.add_assoc]
    exact hU1.low hb5 (by omega)
  · exact hp_set ((hb5.block _ (by omega)).trans (hp_grown hR hg1' (fun e => by injection e with e; omega))) (show w.heap.size ≠ T by omega) _
set_option maxHeartbeats 4000000 in
set_option maxRecDepth 100000 in
theorem router_any (A B : Option Addr) (n m cp cq g : Nat) (xs ys : List Int) (c : Int) (w : World) (hxs : All64 xs) (hys : All64 ys) (hn : n ≤ 200) (hm : m ≤ 200) (hn0 : 0 < n) (hm0 : 0 < m)
    (hx : Rd w (some g) A n xs) (hy : Rd w (some g) B m ys) (hU : Unr w g c) (hc0 : 0 ≤ c) (hc : c < 900000000) :
    Calls Try.prog 29 #[.pointer (some ⟨g, 0, none⟩), .slice A n cp, .slice B m cq] w fun e w' => ∃ V, e = .returned (.agg #[.int .i64 n, .int .i64 m, V]) ∧ OwnI w.heap.size w' V (outL xs ys m n) ∧ w.grownBy w' (some g) ∧ Unr w' g (c + outC xs ys m n) := by
  have hul := hU.lt
  have hnm : n * m ≤ 40000 := by
    have := Nat.mul_le_mul hn hm
    omega
  have HX := Lib.hid hx
  have HY := Lib.hid hy
  have HU := Lib.hid hU
  have HNM := Lib.hid hnm
  clear hx hy hU hnm
  go_enter Try.func29, Try.ntmps29
  go_wp2_with fail
  refine at_world fun W1 hW1 => ?_
  have HI : OUR w W1 (w.heap.size + 1) g c n m xs ys 0 (.slice none 0 0) := by
    subst hW1
    refine ⟨newest_at _ _ (by simp), World.ownsRow_nil _ _ _ _, gr_below (by repeat (first | (with_reducible exact Below.refl _ _) | (with_reducible assumption) | (with_reducible refine Below.drew ?_) | (with_reducible refine Below.alloc ?_ ?_ _) | (with_reducible refine Below.setCell ?_ ?_ _) | (with_reducible refine Below.trans ?_ (Below.mono hb ?_)) | (with_reducible refine Below.trans ?_ (Below.mono hb1 ?_)) | (with_reducible refine Below.trans ?_ (Below.mono hb2 ?_)) | (with_reducible refine Below.trans ?_ (Below.mono hb3 ?_)) | (with_reducible refine Below.trans ?_ (Below.mono hb4 ?_)) | (with_reducible refine Below.trans ?_ (Below.mono hb5 ?_)) | (with_reducible refine Below.trans ?_ (Below.mono hb6 ?_)) | (with_reducible refine Below.trans ?_ (Below.mono hb7 ?_)) | (with_reducible refine Below.trans ?_ (Below.mono hb8 ?_)) | (with_reducible refine Below.trans ?_ (Below.mono hb9 ?_)) | (focus (first | omega | (simp; done) | (simp; omega))) | exact hB)) _, ?_, ?_, by omega⟩
    · rw [show outC xs ys m 0 = 0 from rfl, Int.add_zero]
      exact HU.out.call (by repeat (first | (with_reducible exact Below.refl _ _) | (with_reducible assumption) | (with_reducible refine Below.drew ?_) | (with_reducible refine Below.alloc ?_ ?_ _) | (with_reducible refine Below.setCell ?_ ?_ _) | (with_reducible refine Below.trans ?_ (Below.mono hb ?_)) | (with_reducible refine Below.trans ?_ (Below.mono hb1 ?_)) | (with_reducible refine Below.trans ?_ (Below.mono hb2 ?_)) | (with_reducible refine Below.trans ?_ (Below.mono hb3 ?_)) | (with_reducible refine Below.trans ?_ (Below.mono hb4 ?_)) | (with_reducible refine Below.trans ?_ (Below.mono hb5 ?_)) | (with_reducible refine Below.trans ?_ (Below.mono hb6 ?_)) | (with_reducible refine Below.trans ?_ (Below.mono hb7 ?_)) | (with_reducible refine Below.trans ?_ (Below.mono hb8 ?_)) | (with_reducible refine Below.trans ?_ (Below.mono hb9 ?_)) | (focus (first | omega | (simp; done) | (simp; omega))) | exact hB))
    · exact hp_alloc (heap_alloc_new w _) _
  clear hW1
  obtain ⟨T, hT⟩ : ∃ T, T = w.heap.size + 1 := ⟨_, rfl⟩
  rw [← hT] at HI
  rw [← hT]
  clear hT
  go_loopw [8] (fun i wr => ∃ k : Nat, k ≤ n ∧ i = .int .i64 k ∧ ∃ V, OUR w wr T g c n m xs ys k V) (fun i _ => n - (intOf i).toNat)
  case atStart => exact ⟨0, Nat.zero_le _, rfl, _, HI⟩
  case round =>
    clear HI
    obtain ⟨k, hk, rfl, V, bT2, hO2, hG2, hV2, bR2, hwT⟩ := hrel
    have lT := lt_of_block bT2
    have hcb := outC_bd xs ys m k
    by_cases hlt : k < n
    · obtain ⟨b1, o1, rfl, l1, nb, c1⟩ := (HX.out.grown hG2).2 (by omega)
      replace c1 := c1 k hlt
      have ia : (0 : Int) ≤ (k : Int) := by omega
      have ib : (k : Int) < (n : Int) := by omega
      have hkm : k * m + m ≤ 40000 := by
        have h1 : (k + 1) * m ≤ n * m := Nat.mul_le_mul_right m (by omega)
        have h2 := HNM.out
        rw [Nat.succ_mul] at h1
        omega
      have x64 := hxs k
      obtain ⟨x, hxv⟩ : ∃ x, x = xs.getD k 0 := ⟨_, rfl⟩
      rw [← hxv] at c1 x64
      have HXV := Lib.hid hxv
      clear hxv
      obtain ⟨W2, hW2⟩ : ∃ W2 : World, W2 = wr := ⟨_, rfl⟩
      obtain rfl : W2 = wr := hW2
      have rY2 := HY.out.grown hG2
      have t2 := cell_of_row W2 T 2 _ _ _ bT2
      simp only [List.getElem?_toArray, List.getElem?_cons_zero, List.getElem?_cons_succ] at t2
      have nT : ¬ some T = some g := fun e => by injection e with e; omega
      have EA := Lib.hid (fun W h1 h2 => rscale_any B m cq g ys x (c + outC xs ys m k) W (by omega) hys x64 h1 h2 (by omega) (by omega))
      have HT2 := Lib.hid bT2
      have HR2 := Lib.hid bR2
      have HI0 := Lib.hid (info_parts infoI64)
      have HV := Lib.hid (World.ownsRow.lt (hO2.row (outL_len _ _ _ _)))
      clear bT2 bR2
      go_wp2_with fail
      go_region_law ((first
        | (go_simp; go_at_call 31; refine (EA.out _ rY2.drew hV2.drew).mono ?_; rintro e y1 ⟨V1, rfl, hO1, hg1, hU1⟩; obtain ⟨A1, c1, rfl, r1⟩ := hO1.lenW (rowI_length _ _); have y2 := (gr_cell hg1 (x := T) (o := 2) lT nT).trans t2)
        | (obtain ⟨i0, hi, yz0, yz1, yz2⟩ := HI0.out; refine step_app_all (by rfl) _ _ _ (by rfl) (T + 1) 2 i0 (.int .i64 0) Try.underlying44 hi yz0 yz1 yz2 rfl V (k * m) _ (by rfl) ((OwnI.grown (w := W2.drew) hO2 hg1 (by rintro _ ⟨⟩; omega)).row (outL_len _ _ _ _)) none A1 m c1 (rowI (mulV x ys) m) (by rfl) r1 (by omega) (by have := hg1.size; have hz : W2.drew.heap.size = W2.heap.size := rfl; omega) ?_; clear hi yz0 yz1 yz2; intro v' w5 hown5 hg5 _; obtain ⟨g5, c5, rfl, _⟩ := hown5.form (by omega); have bT5 := hp_grown (hp_grown HT2.out (gr_trans (gr_drew (World.grownBy.refl W2 (some g))) hg1) nT) hg5 (fun e => by have := (HV.out T e.symm).1; omega); have y5 := cell_of_row w5 T 2 _ _ _ bT5; simp only [List.getElem?_toArray, List.getElem?_cons_zero, List.getElem?_cons_succ] at y5; have yf : ∀ i, w5.frozen? ⟨T, i, none⟩ = false := (fun i => by simp [World.frozen?, bT5]); have HB5 := Lib.hid bT5; clear bT5)))
      all_goals
        go_wp2_with fail
        go_roundw
        case rel => exact ⟨k + 1, by omega, by simp, _, OUR.next HT2.out hO2 hG2 HR2.out hwT hul hg1 hU1 hown5 hg5 HB5.out HXV.out⟩
        case measure => simp [intOf]; omega
    · obtain rfl : k = n := by omega
      have hkm : 0 < k * m := Nat.mul_pos hn0 hm0
      obtain ⟨gV, cV, rfl, _⟩ := (hO2.row (outL_len _ _ _ _)).form hkm
      have t0 := cell_of_row wr T 0 _ _ _ bT2
      have t1 := cell_of_row wr T 1 _ _ _ bT2
      have t2 := cell_of_row wr T 2 _ _ _ bT2
      have r0 := cell_of_row wr w.heap.size 0 _ _ _ bR2
      have r1 := cell_of_row wr w.heap.size 1 _ _ _ bR2
      have r2 := cell_of_row wr w.heap.size 2 _ _ _ bR2
      have rf : ∀ i, wr.frozen? ⟨w.heap.size, i, none⟩ = false := fun i => by simp [World.frozen?, bR2]
      simp only [List.getElem?_toArray, List.getElem?_cons_zero, List.getElem?_cons_succ] at t0 t1 t2 r0 r1 r2
      have lR := lt_of_block bR2
      have z1 : ¬ T = w.heap.size := by omega
      have hO3 : OwnI (T + 1) (((wr.setCell ⟨w.heap.size, 0, none⟩ (.int .i64 k)).setCell ⟨w.heap.size, 1, none⟩ (.int .i64 m)).setCell ⟨w.heap.size, 2, none⟩ (.slice (some ⟨gV, 0, none⟩) (k * m) cV)) (.slice (some ⟨gV, 0, none⟩) (k * m) cV) (outL xs ys m k) :=
        ((OwnI.setBelow hO2 (show w.heap.size < T + 1 by omega) _).setBelow (show w.heap.size < T + 1 by omega) _).setBelow (show w.heap.size < T + 1 by omega) _
      have hG3 := gr_set (gr_set (gr_set hG2 (p := ⟨w.heap.size, 0, none⟩) (Nat.le_refl _) (.int .i64 k)) (p := ⟨w.heap.size, 1, none⟩) (Nat.le_refl _) (.int .i64 m)) (p := ⟨w.heap.size, 2, none⟩) (Nat.le_refl _) (.slice (some ⟨gV, 0, none⟩) (k * m) cV)
      have hV3 := ((hV2.setc (p := ⟨w.heap.size, 0, none⟩) (show g ≠ w.heap.size by omega) (.int .i64 k)).setc (p := ⟨w.heap.size, 1, none⟩) (show g ≠ w.heap.size by omega) (.int .i64 m)).setc (p := ⟨w.heap.size, 2, none⟩) (show g ≠ w.heap.size by omega) (.slice (some ⟨gV, 0, none⟩) (k * m) cV)
      clear hO2 hG2 hV2 bT2
      go_wp2_with fail
      exact bodyPost_ret (v := .agg #[.int .i64 k, .int .i64 m, .slice (some ⟨gV, 0, none⟩) (k * m) cV]) (by simp [*, results, Try.results29, go_sem]) rfl ⟨_, rfl, hO3.base (by omega), hG3, hV3⟩
end Go.Proofs.Ytikjomekhnkgcaa
