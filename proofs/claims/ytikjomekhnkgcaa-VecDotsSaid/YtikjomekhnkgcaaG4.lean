import Derived.Test.YtikjomekhnkgcaaG3
/- The reference's sums: Add, Mul. -/
namespace Go.Proofs.Ytikjomekhnkgcaa
open Go.RowKit
attribute [local go_sem ↓] Go.wp_at_zero Go.wp_at_succ

theorem setLo {w : World} {g : Nat} {T : TypeId} {a0 a1 a2 a3 a4 a5 a6 a7 a8 a9 a10 a11 : Value} (v0 v1 v2 v3 v4 v5 : Value) (h : w.heap[g]? = some (.cells #[a0, a1, a2, a3, a4, a5, a6, a7, a8, a9, a10, a11] T (0, 0))) :
    ((((((w.setCell ⟨g, 0, none⟩ v0).setCell ⟨g, 1, none⟩ v1).setCell ⟨g, 2, none⟩ v2).setCell ⟨g, 3, none⟩ v3).setCell ⟨g, 4, none⟩ v4).setCell ⟨g, 5, none⟩ v5).heap[g]? = some (.cells #[v0, v1, v2, v3, v4, v5, a6, a7, a8, a9, a10, a11] T (0, 0)) := by
  simp [World.setCell, Array.getElem?_modify, h]
theorem setHi {w : World} {g : Nat} {T : TypeId} {a0 a1 a2 a3 a4 a5 a6 a7 a8 a9 a10 a11 : Value} (v6 v7 v8 v9 v10 v11 : Value) (h : w.heap[g]? = some (.cells #[a0, a1, a2, a3, a4, a5, a6, a7, a8, a9, a10, a11] T (0, 0))) :
    ((((((w.setCell ⟨g, 6, none⟩ v6).setCell ⟨g, 7, none⟩ v7).setCell ⟨g, 8, none⟩ v8).setCell ⟨g, 9, none⟩ v9).setCell ⟨g, 10, none⟩ v10).setCell ⟨g, 11, none⟩ v11).heap[g]? = some (.cells #[a0, a1, a2, a3, a4, a5, v6, v7, v8, v9, v10, v11] T (0, 0)) := by
  simp [World.setCell, Array.getElem?_modify, h]
theorem setLo_far {w : World} {g b : Nat} (v0 v1 v2 v3 v4 v5 : Value) (h : b ≠ g) : ((((((w.setCell ⟨g, 0, none⟩ v0).setCell ⟨g, 1, none⟩ v1).setCell ⟨g, 2, none⟩ v2).setCell ⟨g, 3, none⟩ v3).setCell ⟨g, 4, none⟩ v4).setCell ⟨g, 5, none⟩ v5).heap[b]? = w.heap[b]? := by
  rw [Below.heap_setCell _ _ _ _ h, Below.heap_setCell _ _ _ _ h, Below.heap_setCell _ _ _ _ h, Below.heap_setCell _ _ _ _ h, Below.heap_setCell _ _ _ _ h, Below.heap_setCell _ _ _ _ h]
theorem setHi_far {w : World} {g b : Nat} (v6 v7 v8 v9 v10 v11 : Value) (h : b ≠ g) : ((((((w.setCell ⟨g, 6, none⟩ v6).setCell ⟨g, 7, none⟩ v7).setCell ⟨g, 8, none⟩ v8).setCell ⟨g, 9, none⟩ v9).setCell ⟨g, 10, none⟩ v10).setCell ⟨g, 11, none⟩ v11).heap[b]? = w.heap[b]? := by
  rw [Below.heap_setCell _ _ _ _ h, Below.heap_setCell _ _ _ _ h, Below.heap_setCell _ _ _ _ h, Below.heap_setCell _ _ _ _ h, Below.heap_setCell _ _ _ _ h, Below.heap_setCell _ _ _ _ h]
theorem setHi_below {w : World} {B g : Nat} (v6 v7 v8 v9 v10 v11 : Value) (hB : B ≤ g) : Below B w ((((((w.setCell ⟨g, 6, none⟩ v6).setCell ⟨g, 7, none⟩ v7).setCell ⟨g, 8, none⟩ v8).setCell ⟨g, 9, none⟩ v9).setCell ⟨g, 10, none⟩ v10).setCell ⟨g, 11, none⟩ v11) :=
  (((((bel_d B w ⟨g, 6, none⟩ v6 hB).trans (bel_d B _ ⟨g, 7, none⟩ v7 hB)).trans (bel_d B _ ⟨g, 8, none⟩ v8 hB)).trans (bel_d B _ ⟨g, 9, none⟩ v9 hB)).trans (bel_d B _ ⟨g, 10, none⟩ v10 hB)).trans (bel_d B _ ⟨g, 11, none⟩ v11 hB)


set_option maxHeartbeats 4000000 in
theorem sadd_neg (p n a pl : Int) (ha : In64 a) (hp0 : 0 ≤ pl) (hp2 : pl ≤ 2) (h : a < 0) (w : World) :
    Calls Try.prog 75 #[.agg #[.int .u64 (dg 0 (p)), .int .u64 (dg 1 (p)), .int .u64 (dg 2 (p)), .int .u64 (dg 3 (p)), .int .u64 (dg 4 (p)), .int .u64 (dg 5 (p)), .int .u64 (dg 0 (n)), .int .u64 (dg 1 (n)), .int .u64 (dg 2 (n)), .int .u64 (dg 3 (n)), .int .u64 (dg 4 (n)), .int .u64 (dg 5 (n))], .int .i64 a, .int .i64 pl] w fun e w' => e = .returned (.agg #[.int .u64 (dg 0 (p)), .int .u64 (dg 1 (p)), .int .u64 (dg 2 (p)), .int .u64 (dg 3 (p)), .int .u64 (dg 4 (p)), .int .u64 (dg 5 (p)), .int .u64 (dg 0 (n + upB pl (absI a))), .int .u64 (dg 1 (n + upB pl (absI a))), .int .u64 (dg 2 (n + upB pl (absI a))), .int .u64 (dg 3 (n + upB pl (absI a))), .int .u64 (dg 4 (n + upB pl (absI a))), .int .u64 (dg 5 (n + upB pl (absI a)))]) ∧ Below w.heap.size w w' := by
  have hU : U64 (absI a) := by unfold In64 at ha; unfold U64 absI; split <;> omega
  have SZ := Lib.hid (fun W => size02_any a ha W)
  have ON := Lib.hid (fun W => one64_any (absI a) pl hU hp0 hp2 W)
  go_enter Try.func75, Try.ntmps75
  go_wp2
  refine at_world fun W0 hW0 => ?_
  have t3 : W0.heap[w.heap.size]? = some (.cells #[.int .u64 (dg 0 (p)), .int .u64 (dg 1 (p)), .int .u64 (dg 2 (p)), .int .u64 (dg 3 (p)), .int .u64 (dg 4 (p)), .int .u64 (dg 5 (p)), .int .u64 (dg 0 (n)), .int .u64 (dg 1 (n)), .int .u64 (dg 2 (n)), .int .u64 (dg 3 (n)), .int .u64 (dg 4 (n)), .int .u64 (dg 5 (n))] 104 (0, 0)) := by subst hW0; exact (Below.heap_alloc _ _ _ (by simp)).trans (heap_alloc_new w _)
  have rv : W0.heap[w.heap.size + 1]? = some (.cells #[.int .u64 0, .int .u64 0, .int .u64 0, .int .u64 0, .int .u64 0, .int .u64 0, .int .u64 0, .int .u64 0, .int .u64 0, .int .u64 0, .int .u64 0, .int .u64 0] 104 (0, 0)) := by subst hW0; exact newest_at _ _ (by simp)
  have BW : Below w.heap.size w W0 := by subst hW0; exact (by repeat (first | (with_reducible exact Below.refl _ _) | (with_reducible assumption) | (with_reducible refine Below.drew ?_) | (with_reducible refine Below.alloc ?_ ?_ _) | (with_reducible refine Below.setCell ?_ ?_ _) | (with_reducible refine Below.trans ?_ (Below.mono hb ?_)) | (with_reducible refine Below.trans ?_ (Below.mono hb1 ?_)) | (with_reducible refine Below.trans ?_ (Below.mono hb2 ?_)) | (with_reducible refine Below.trans ?_ (Below.mono hb3 ?_)) | (with_reducible refine Below.trans ?_ (Below.mono hb4 ?_)) | (with_reducible refine Below.trans ?_ (Below.mono hb5 ?_)) | (with_reducible refine Below.trans ?_ (Below.mono hb6 ?_)) | (with_reducible refine Below.trans ?_ (Below.mono hb7 ?_)) | (with_reducible refine Below.trans ?_ (Below.mono hb8 ?_)) | (with_reducible refine Below.trans ?_ (Below.mono hb9 ?_)) | (focus (first | omega | (simp; done) | (simp; omega))) | exact hB))
  clear hW0
  have x0 := cell_of_row W0 w.heap.size 0 _ _ _ t3
  have x1 := cell_of_row W0 w.heap.size 1 _ _ _ t3
  have x2 := cell_of_row W0 w.heap.size 2 _ _ _ t3
  have x3 := cell_of_row W0 w.heap.size 3 _ _ _ t3
  have x4 := cell_of_row W0 w.heap.size 4 _ _ _ t3
  have x5 := cell_of_row W0 w.heap.size 5 _ _ _ t3
  have x6 := cell_of_row W0 w.heap.size 6 _ _ _ t3
  have x7 := cell_of_row W0 w.heap.size 7 _ _ _ t3
  have x8 := cell_of_row W0 w.heap.size 8 _ _ _ t3
  have x9 := cell_of_row W0 w.heap.size 9 _ _ _ t3
  have x10 := cell_of_row W0 w.heap.size 10 _ _ _ t3
  have x11 := cell_of_row W0 w.heap.size 11 _ _ _ t3
  have xf : ∀ i, W0.frozen? ⟨w.heap.size, i, none⟩ = false := fun i => by simp [World.frozen?, t3]
  simp only [List.getElem?_toArray, List.getElem?_cons_zero, List.getElem?_cons_succ] at x0 x1 x2 x3 x4 x5 x6 x7 x8 x9 x10 x11
  have kt := lt_of_block t3
  have kr := lt_of_block rv
  go_cut [6] (fun v w' => v = .pointer (some ⟨w.heap.size + 1, 0, none⟩) ∧ w'.heap[w.heap.size]? = some (.cells #[.int .u64 (dg 0 (p)), .int .u64 (dg 1 (p)), .int .u64 (dg 2 (p)), .int .u64 (dg 3 (p)), .int .u64 (dg 4 (p)), .int .u64 (dg 5 (p)), .int .u64 (dg 0 (n + upB pl (absI a))), .int .u64 (dg 1 (n + upB pl (absI a))), .int .u64 (dg 2 (n + upB pl (absI a))), .int .u64 (dg 3 (n + upB pl (absI a))), .int .u64 (dg 4 (n + upB pl (absI a))), .int .u64 (dg 5 (n + upB pl (absI a)))] 104 (0, 0)) ∧ w'.heap[w.heap.size + 1]? = some (.cells #[.int .u64 0, .int .u64 0, .int .u64 0, .int .u64 0, .int .u64 0, .int .u64 0, .int .u64 0, .int .u64 0, .int .u64 0, .int .u64 0, .int .u64 0, .int .u64 0] 104 (0, 0)) ∧ Below w.heap.size w w')
  case first =>
    go_region_with (first
  | (go_at_call 101; refine (SZ.out _).mono ?_; rintro e w' ⟨rfl, rfl⟩)
  | (go_at_call 103; refine (ON.out _).mono ?_; rintro e w1 ⟨rfl, hb1⟩; replace hb1 := undrew hb1; obtain ⟨hc1, hf1, hz1⟩ := bcell hb1)
  | (go_at_call 102; refine (plus_any _ _ _).mono ?_; rintro e w2 ⟨rfl, hb2⟩; obtain ⟨hc2, hf2, hz2⟩ := bcell hb2; (try have : w.heap.size < w1.heap.size := by omega)))
    all_goals
      go_wp2_with fail
      go_meet
      case rel => exact ⟨rfl, setHi (.int .u64 (dg 0 (n + upB pl (absI a)))) (.int .u64 (dg 1 (n + upB pl (absI a)))) (.int .u64 (dg 2 (n + upB pl (absI a)))) (.int .u64 (dg 3 (n + upB pl (absI a)))) (.int .u64 (dg 4 (n + upB pl (absI a)))) (.int .u64 (dg 5 (n + upB pl (absI a)))) ((hb2.block _ (by omega)).trans ((hb1.block _ (by omega)).trans t3)),
        (setHi_far (.int .u64 (dg 0 (n + upB pl (absI a)))) (.int .u64 (dg 1 (n + upB pl (absI a)))) (.int .u64 (dg 2 (n + upB pl (absI a)))) (.int .u64 (dg 3 (n + upB pl (absI a)))) (.int .u64 (dg 4 (n + upB pl (absI a)))) (.int .u64 (dg 5 (n + upB pl (absI a)))) (Nat.succ_ne_self _)).trans ((hb2.block _ (by omega)).trans ((hb1.block _ kr).trans rv)),
        BW.trans ((hb1.mono (by omega)).trans ((hb2.mono (by omega)).trans (setHi_below (.int .u64 (dg 0 (n + upB pl (absI a)))) (.int .u64 (dg 1 (n + upB pl (absI a)))) (.int .u64 (dg 2 (n + upB pl (absI a)))) (.int .u64 (dg 3 (n + upB pl (absI a)))) (.int .u64 (dg 4 (n + upB pl (absI a)))) (.int .u64 (dg 5 (n + upB pl (absI a)))) (Nat.le_refl _))))⟩
  case rest =>
  obtain ⟨rfl, t8, rv1, BW1⟩ := hcut
  have y0 := cell_of_row wc w.heap.size 0 _ _ _ t8
  have y1 := cell_of_row wc w.heap.size 1 _ _ _ t8
  have y2 := cell_of_row wc w.heap.size 2 _ _ _ t8
  have y3 := cell_of_row wc w.heap.size 3 _ _ _ t8
  have y4 := cell_of_row wc w.heap.size 4 _ _ _ t8
  have y5 := cell_of_row wc w.heap.size 5 _ _ _ t8
  have y6 := cell_of_row wc w.heap.size 6 _ _ _ t8
  have y7 := cell_of_row wc w.heap.size 7 _ _ _ t8
  have y8 := cell_of_row wc w.heap.size 8 _ _ _ t8
  have y9 := cell_of_row wc w.heap.size 9 _ _ _ t8
  have y10 := cell_of_row wc w.heap.size 10 _ _ _ t8
  have y11 := cell_of_row wc w.heap.size 11 _ _ _ t8
  have z0 := cell_of_row wc (w.heap.size + 1) 0 _ _ _ rv1
  have z1 := cell_of_row wc (w.heap.size + 1) 1 _ _ _ rv1
  have z2 := cell_of_row wc (w.heap.size + 1) 2 _ _ _ rv1
  have z3 := cell_of_row wc (w.heap.size + 1) 3 _ _ _ rv1
  have z4 := cell_of_row wc (w.heap.size + 1) 4 _ _ _ rv1
  have z5 := cell_of_row wc (w.heap.size + 1) 5 _ _ _ rv1
  have z6 := cell_of_row wc (w.heap.size + 1) 6 _ _ _ rv1
  have z7 := cell_of_row wc (w.heap.size + 1) 7 _ _ _ rv1
  have z8 := cell_of_row wc (w.heap.size + 1) 8 _ _ _ rv1
  have z9 := cell_of_row wc (w.heap.size + 1) 9 _ _ _ rv1
  have z10 := cell_of_row wc (w.heap.size + 1) 10 _ _ _ rv1
  have z11 := cell_of_row wc (w.heap.size + 1) 11 _ _ _ rv1
  have zf : ∀ i, wc.frozen? ⟨w.heap.size + 1, i, none⟩ = false := fun i => by simp [World.frozen?, rv1]
  simp only [List.getElem?_toArray, List.getElem?_cons_zero, List.getElem?_cons_succ] at y0 z0 y1 z1 y2 z2 y3 z3 y4 z4 y5 z5 y6 z6 y7 z7 y8 z8 y9 z9 y10 z10 y11 z11
  have k8 := lt_of_block t8
  have kw := lt_of_block rv1
  clear rv1 t8
  clear x0 x1 x2 x3 x4 x5 x6 x7 x8 x9 x10 x11 xf t3 rv BW kt kr
  go_wp2
  exact bodyPost_ret (v := .agg #[.int .u64 (dg 0 (p)), .int .u64 (dg 1 (p)), .int .u64 (dg 2 (p)), .int .u64 (dg 3 (p)), .int .u64 (dg 4 (p)), .int .u64 (dg 5 (p)), .int .u64 (dg 0 (n + upB pl (absI a))), .int .u64 (dg 1 (n + upB pl (absI a))), .int .u64 (dg 2 (n + upB pl (absI a))), .int .u64 (dg 3 (n + upB pl (absI a))), .int .u64 (dg 4 (n + upB pl (absI a))), .int .u64 (dg 5 (n + upB pl (absI a)))]) (by simp [*, results, Try.results75, go_sem]) rfl ⟨rfl, (by repeat (first | (with_reducible exact Below.refl _ _) | (with_reducible assumption) | (with_reducible refine Below.drew ?_) | (with_reducible refine Below.alloc ?_ ?_ _) | (with_reducible refine Below.setCell ?_ ?_ _) | (with_reducible refine Below.trans ?_ (Below.mono hb ?_)) | (with_reducible refine Below.trans ?_ (Below.mono hb1 ?_)) | (with_reducible refine Below.trans ?_ (Below.mono hb2 ?_)) | (with_reducible refine Below.trans ?_ (Below.mono hb3 ?_)) | (with_reducible refine Below.trans ?_ (Below.mono hb4 ?_)) | (with_reducible refine Below.trans ?_ (Below.mono hb5 ?_)) | (with_reducible refine Below.trans ?_ (Below.mono hb6 ?_)) | (with_reducible refine Below.trans ?_ (Below.mono hb7 ?_)) | (with_reducible refine Below.trans ?_ (Below.mono hb8 ?_)) | (with_reducible refine Below.trans ?_ (Below.mono hb9 ?_)) | (focus (first | omega | (simp; done) | (simp; omega))) | exact hB))⟩

set_option maxHeartbeats 4000000 in
theorem sadd_pos (p n a pl : Int) (ha : In64 a) (hp0 : 0 ≤ pl) (hp2 : pl ≤ 2) (h : ¬ a < 0) (w : World) :
    Calls Try.prog 75 #[.agg #[.int .u64 (dg 0 (p)), .int .u64 (dg 1 (p)), .int .u64 (dg 2 (p)), .int .u64 (dg 3 (p)), .int .u64 (dg 4 (p)), .int .u64 (dg 5 (p)), .int .u64 (dg 0 (n)), .int .u64 (dg 1 (n)), .int .u64 (dg 2 (n)), .int .u64 (dg 3 (n)), .int .u64 (dg 4 (n)), .int .u64 (dg 5 (n))], .int .i64 a, .int .i64 pl] w fun e w' => e = .returned (.agg #[.int .u64 (dg 0 (p + upB pl (absI a))), .int .u64 (dg 1 (p + upB pl (absI a))), .int .u64 (dg 2 (p + upB pl (absI a))), .int .u64 (dg 3 (p + upB pl (absI a))), .int .u64 (dg 4 (p + upB pl (absI a))), .int .u64 (dg 5 (p + upB pl (absI a))), .int .u64 (dg 0 (n)), .int .u64 (dg 1 (n)), .int .u64 (dg 2 (n)), .int .u64 (dg 3 (n)), .int .u64 (dg 4 (n)), .int .u64 (dg 5 (n))]) ∧ Below w.heap.size w w' := by
  have hU : U64 (absI a) := by unfold In64 at ha; unfold U64 absI; split <;> omega
  have SZ := Lib.hid (fun W => size02_any a ha W)
  have ON := Lib.hid (fun W => one64_any (absI a) pl hU hp0 hp2 W)
  go_enter Try.func75, Try.ntmps75
  go_wp2
  refine at_world fun W0 hW0 => ?_
  have t3 : W0.heap[w.heap.size]? = some (.cells #[.int .u64 (dg 0 (p)), .int .u64 (dg 1 (p)), .int .u64 (dg 2 (p)), .int .u64 (dg 3 (p)), .int .u64 (dg 4 (p)), .int .u64 (dg 5 (p)), .int .u64 (dg 0 (n)), .int .u64 (dg 1 (n)), .int .u64 (dg 2 (n)), .int .u64 (dg 3 (n)), .int .u64 (dg 4 (n)), .int .u64 (dg 5 (n))] 104 (0, 0)) := by subst hW0; exact (Below.heap_alloc _ _ _ (by simp)).trans (heap_alloc_new w _)
  have rv : W0.heap[w.heap.size + 1]? = some (.cells #[.int .u64 0, .int .u64 0, .int .u64 0, .int .u64 0, .int .u64 0, .int .u64 0, .int .u64 0, .int .u64 0, .int .u64 0, .int .u64 0, .int .u64 0, .int .u64 0] 104 (0, 0)) := by subst hW0; exact newest_at _ _ (by simp)
  have BW : Below w.heap.size w W0 := by subst hW0; exact (by repeat (first | (with_reducible exact Below.refl _ _) | (with_reducible assumption) | (with_reducible refine Below.drew ?_) | (with_reducible refine Below.alloc ?_ ?_ _) | (with_reducible refine Below.setCell ?_ ?_ _) | (with_reducible refine Below.trans ?_ (Below.mono hb ?_)) | (with_reducible refine Below.trans ?_ (Below.mono hb1 ?_)) | (with_reducible refine Below.trans ?_ (Below.mono hb2 ?_)) | (with_reducible refine Below.trans ?_ (Below.mono hb3 ?_)) | (with_reducible refine Below.trans ?_ (Below.mono hb4 ?_)) | (with_reducible refine Below.trans ?_ (Below.mono hb5 ?_)) | (with_reducible refine Below.trans ?_ (Below.mono hb6 ?_)) | (with_reducible refine Below.trans ?_ (Below.mono hb7 ?_)) | (with_reducible refine Below.trans ?_ (Below.mono hb8 ?_)) | (with_reducible refine Below.trans ?_ (Below.mono hb9 ?_)) | (focus (first | omega | (simp; done) | (simp; omega))) | exact hB))
  clear hW0
  have x0 := cell_of_row W0 w.heap.size 0 _ _ _ t3
  have x1 := cell_of_row W0 w.heap.size 1 _ _ _ t3
  have x2 := cell_of_row W0 w.heap.size 2 _ _ _ t3
  have x3 := cell_of_row W0 w.heap.size 3 _ _ _ t3
  have x4 := cell_of_row W0 w.heap.size 4 _ _ _ t3
  have x5 := cell_of_row W0 w.heap.size 5 _ _ _ t3
  have x6 := cell_of_row W0 w.heap.size 6 _ _ _ t3
  have x7 := cell_of_row W0 w.heap.size 7 _ _ _ t3
  have x8 := cell_of_row W0 w.heap.size 8 _ _ _ t3
  have x9 := cell_of_row W0 w.heap.size 9 _ _ _ t3
  have x10 := cell_of_row W0 w.heap.size 10 _ _ _ t3
  have x11 := cell_of_row W0 w.heap.size 11 _ _ _ t3
  have xf : ∀ i, W0.frozen? ⟨w.heap.size, i, none⟩ = false := fun i => by simp [World.frozen?, t3]
  simp only [List.getElem?_toArray, List.getElem?_cons_zero, List.getElem?_cons_succ] at x0 x1 x2 x3 x4 x5 x6 x7 x8 x9 x10 x11
  have kt := lt_of_block t3
  have kr := lt_of_block rv
  go_cut [6] (fun v w' => v = .pointer (some ⟨w.heap.size + 1, 0, none⟩) ∧ w'.heap[w.heap.size]? = some (.cells #[.int .u64 (dg 0 (p + upB pl (absI a))), .int .u64 (dg 1 (p + upB pl (absI a))), .int .u64 (dg 2 (p + upB pl (absI a))), .int .u64 (dg 3 (p + upB pl (absI a))), .int .u64 (dg 4 (p + upB pl (absI a))), .int .u64 (dg 5 (p + upB pl (absI a))), .int .u64 (dg 0 (n)), .int .u64 (dg 1 (n)), .int .u64 (dg 2 (n)), .int .u64 (dg 3 (n)), .int .u64 (dg 4 (n)), .int .u64 (dg 5 (n))] 104 (0, 0)) ∧ w'.heap[w.heap.size + 1]? = some (.cells #[.int .u64 0, .int .u64 0, .int .u64 0, .int .u64 0, .int .u64 0, .int .u64 0, .int .u64 0, .int .u64 0, .int .u64 0, .int .u64 0, .int .u64 0, .int .u64 0] 104 (0, 0)) ∧ Below w.heap.size w w')
  case first =>
    go_region_with (first
  | (go_at_call 101; refine (SZ.out _).mono ?_; rintro e w' ⟨rfl, rfl⟩)
  | (go_at_call 103; refine (ON.out _).mono ?_; rintro e w1 ⟨rfl, hb1⟩; replace hb1 := undrew hb1; obtain ⟨hc1, hf1, hz1⟩ := bcell hb1)
  | (go_at_call 102; refine (plus_any _ _ _).mono ?_; rintro e w2 ⟨rfl, hb2⟩; obtain ⟨hc2, hf2, hz2⟩ := bcell hb2; (try have : w.heap.size < w1.heap.size := by omega)))
    all_goals
      go_wp2_with fail
      go_meet
      case rel => exact ⟨rfl, setLo (.int .u64 (dg 0 (p + upB pl (absI a)))) (.int .u64 (dg 1 (p + upB pl (absI a)))) (.int .u64 (dg 2 (p + upB pl (absI a)))) (.int .u64 (dg 3 (p + upB pl (absI a)))) (.int .u64 (dg 4 (p + upB pl (absI a)))) (.int .u64 (dg 5 (p + upB pl (absI a)))) ((hb2.block _ (by omega)).trans ((hb1.block _ (by omega)).trans t3)),
        (setLo_far (.int .u64 (dg 0 (p + upB pl (absI a)))) (.int .u64 (dg 1 (p + upB pl (absI a)))) (.int .u64 (dg 2 (p + upB pl (absI a)))) (.int .u64 (dg 3 (p + upB pl (absI a)))) (.int .u64 (dg 4 (p + upB pl (absI a)))) (.int .u64 (dg 5 (p + upB pl (absI a)))) (Nat.succ_ne_self _)).trans ((hb2.block _ (by omega)).trans ((hb1.block _ kr).trans rv)),
        BW.trans ((hb1.mono (by omega)).trans ((hb2.mono (by omega)).trans (set6_below (.int .u64 (dg 0 (p + upB pl (absI a)))) (.int .u64 (dg 1 (p + upB pl (absI a)))) (.int .u64 (dg 2 (p + upB pl (absI a)))) (.int .u64 (dg 3 (p + upB pl (absI a)))) (.int .u64 (dg 4 (p + upB pl (absI a)))) (.int .u64 (dg 5 (p + upB pl (absI a)))) (Nat.le_refl _))))⟩
  case rest =>
  obtain ⟨rfl, t8, rv1, BW1⟩ := hcut
  have y0 := cell_of_row wc w.heap.size 0 _ _ _ t8
  have y1 := cell_of_row wc w.heap.size 1 _ _ _ t8
  have y2 := cell_of_row wc w.heap.size 2 _ _ _ t8
  have y3 := cell_of_row wc w.heap.size 3 _ _ _ t8
  have y4 := cell_of_row wc w.heap.size 4 _ _ _ t8
  have y5 := cell_of_row wc w.heap.size 5 _ _ _ t8
  have y6 := cell_of_row wc w.heap.size 6 _ _ _ t8
  have y7 := cell_of_row wc w.heap.size 7 _ _ _ t8
  have y8 := cell_of_row wc w.heap.size 8 _ _ _ t8
  have y9 := cell_of_row wc w.heap.size 9 _ _ _ t8
  have y10 := cell_of_row wc w.heap.size 10 _ _ _ t8
  have y11 := cell_of_row wc w.heap.size 11 _ _ _ t8
  have z0 := cell_of_row wc (w.heap.size + 1) 0 _ _ _ rv1
  have z1 := cell_of_row wc (w.heap.size + 1) 1 _ _ _ rv1
  have z2 := cell_of_row wc (w.heap.size + 1) 2 _ _ _ rv1
  have z3 := cell_of_row wc (w.heap.size + 1) 3 _ _ _ rv1
  have z4 := cell_of_row wc (w.heap.size + 1) 4 _ _ _ rv1
  have z5 := cell_of_row wc (w.heap.size + 1) 5 _ _ _ rv1
  have z6 := cell_of_row wc (w.heap.size + 1) 6 _ _ _ rv1
  have z7 := cell_of_row wc (w.heap.size + 1) 7 _ _ _ rv1
  have z8 := cell_of_row wc (w.heap.size + 1) 8 _ _ _ rv1
  have z9 := cell_of_row wc (w.heap.size + 1) 9 _ _ _ rv1
  have z10 := cell_of_row wc (w.heap.size + 1) 10 _ _ _ rv1
  have z11 := cell_of_row wc (w.heap.size + 1) 11 _ _ _ rv1
  have zf : ∀ i, wc.frozen? ⟨w.heap.size + 1, i, none⟩ = false := fun i => by simp [World.frozen?, rv1]
  simp only [List.getElem?_toArray, List.getElem?_cons_zero, List.getElem?_cons_succ] at y0 z0 y1 z1 y2 z2 y3 z3 y4 z4 y5 z5 y6 z6 y7 z7 y8 z8 y9 z9 y10 z10 y11 z11
  have k8 := lt_of_block t8
  have kw := lt_of_block rv1
  clear rv1 t8
  clear x0 x1 x2 x3 x4 x5 x6 x7 x8 x9 x10 x11 xf t3 rv BW kt kr
  go_wp2
  exact bodyPost_ret (v := .agg #[.int .u64 (dg 0 (p + upB pl (absI a))), .int .u64 (dg 1 (p + upB pl (absI a))), .int .u64 (dg 2 (p + upB pl (absI a))), .int .u64 (dg 3 (p + upB pl (absI a))), .int .u64 (dg 4 (p + upB pl (absI a))), .int .u64 (dg 5 (p + upB pl (absI a))), .int .u64 (dg 0 (n)), .int .u64 (dg 1 (n)), .int .u64 (dg 2 (n)), .int .u64 (dg 3 (n)), .int .u64 (dg 4 (n)), .int .u64 (dg 5 (n))]) (by simp [*, results, Try.results75, go_sem]) rfl ⟨rfl, (by repeat (first | (with_reducible exact Below.refl _ _) | (with_reducible assumption) | (with_reducible refine Below.drew ?_) | (with_reducible refine Below.alloc ?_ ?_ _) | (with_reducible refine Below.setCell ?_ ?_ _) | (with_reducible refine Below.trans ?_ (Below.mono hb ?_)) | (with_reducible refine Below.trans ?_ (Below.mono hb1 ?_)) | (with_reducible refine Below.trans ?_ (Below.mono hb2 ?_)) | (with_reducible refine Below.trans ?_ (Below.mono hb3 ?_)) | (with_reducible refine Below.trans ?_ (Below.mono hb4 ?_)) | (with_reducible refine Below.trans ?_ (Below.mono hb5 ?_)) | (with_reducible refine Below.trans ?_ (Below.mono hb6 ?_)) | (with_reducible refine Below.trans ?_ (Below.mono hb7 ?_)) | (with_reducible refine Below.trans ?_ (Below.mono hb8 ?_)) | (with_reducible refine Below.trans ?_ (Below.mono hb9 ?_)) | (focus (first | omega | (simp; done) | (simp; omega))) | exact hB))⟩

theorem sadd_any (p n a pl : Int) (ha : In64 a) (hp0 : 0 ≤ pl) (hp2 : pl ≤ 2) (w : World) :
    Calls Try.prog 75 #[.agg #[.int .u64 (dg 0 (p)), .int .u64 (dg 1 (p)), .int .u64 (dg 2 (p)), .int .u64 (dg 3 (p)), .int .u64 (dg 4 (p)), .int .u64 (dg 5 (p)), .int .u64 (dg 0 (n)), .int .u64 (dg 1 (n)), .int .u64 (dg 2 (n)), .int .u64 (dg 3 (n)), .int .u64 (dg 4 (n)), .int .u64 (dg 5 (n))], .int .i64 a, .int .i64 pl] w fun e w' => e = .returned (.agg #[.int .u64 (dg 0 (p + upB pl (posP a))), .int .u64 (dg 1 (p + upB pl (posP a))), .int .u64 (dg 2 (p + upB pl (posP a))), .int .u64 (dg 3 (p + upB pl (posP a))), .int .u64 (dg 4 (p + upB pl (posP a))), .int .u64 (dg 5 (p + upB pl (posP a))), .int .u64 (dg 0 (n + upB pl (negP a))), .int .u64 (dg 1 (n + upB pl (negP a))), .int .u64 (dg 2 (n + upB pl (negP a))), .int .u64 (dg 3 (n + upB pl (negP a))), .int .u64 (dg 4 (n + upB pl (negP a))), .int .u64 (dg 5 (n + upB pl (negP a)))]) ∧ Below w.heap.size w w' := by
  have hz : upB pl 0 = 0 := by unfold upB; simp
  by_cases h : a < 0
  · have e1 : posP a = 0 := by unfold posP; rw [if_pos h]
    have e2 : negP a = absI a := by unfold negP absI; rw [if_pos h, if_pos h]
    rw [e1, e2, hz, Int.add_zero]
    exact sadd_neg p n a pl ha hp0 hp2 h w
  · have e1 : posP a = absI a := by unfold posP absI; rw [if_neg h, if_neg h]
    have e2 : negP a = 0 := by unfold negP; rw [if_neg h]
    rw [e1, e2, hz, Int.add_zero]
    exact sadd_pos p n a pl ha hp0 hp2 h w

set_option maxHeartbeats 4000000 in
theorem smul_tf (p n a b : Int) (ha : In64 a) (hb0 : In64 b) (h1 : decide (a < 0) = true) (h2 : decide (b < 0) = false) (w : World) :
    Calls Try.prog 74 #[.agg #[.int .u64 (dg 0 (p)), .int .u64 (dg 1 (p)), .int .u64 (dg 2 (p)), .int .u64 (dg 3 (p)), .int .u64 (dg 4 (p)), .int .u64 (dg 5 (p)), .int .u64 (dg 0 (n)), .int .u64 (dg 1 (n)), .int .u64 (dg 2 (n)), .int .u64 (dg 3 (n)), .int .u64 (dg 4 (n)), .int .u64 (dg 5 (n))], .int .i64 a, .int .i64 b] w fun e w' => e = .returned (.agg #[.int .u64 (dg 0 (p)), .int .u64 (dg 1 (p)), .int .u64 (dg 2 (p)), .int .u64 (dg 3 (p)), .int .u64 (dg 4 (p)), .int .u64 (dg 5 (p)), .int .u64 (dg 0 (n + absI a * absI b)), .int .u64 (dg 1 (n + absI a * absI b)), .int .u64 (dg 2 (n + absI a * absI b)), .int .u64 (dg 3 (n + absI a * absI b)), .int .u64 (dg 4 (n + absI a * absI b)), .int .u64 (dg 5 (n + absI a * absI b))]) ∧ Below w.heap.size w w' := by
  have hU : U64 (absI a) := by unfold In64 at ha; unfold U64 absI; split <;> omega
  have hU2 : U64 (absI b) := by unfold In64 at hb0; unfold U64 absI; split <;> omega
  have PR := Lib.hid (fun W => product_any (absI a) (absI b) hU hU2 W)
  go_enter Try.func74, Try.ntmps74
  go_wp2_with fail
  refine (size02_any a ha _).mono ?_
  rintro e w' ⟨rfl, rfl⟩
  go_wp2_with fail
  refine (size02_any b hb0 _).mono ?_
  rintro e w' ⟨rfl, rfl⟩
  go_wp2_with fail
  refine (PR.out _).mono ?_
  rintro e w1 ⟨rfl, hb1⟩; obtain ⟨hc1, hf1, hz1⟩ := bcell hb1; (try simp at hz1); (try have : w.heap.size < w1.heap.size := by omega); (try have : w.heap.size + 1 < w1.heap.size := by omega); (try have : w.heap.size + 1 + 1 < w1.heap.size := by omega); (try have : w.heap.size + 1 + 1 + 1 < w1.heap.size := by omega); (try have : g < w1.heap.size := by omega); (try have : ga < w1.heap.size := by omega); (try have : gb < w1.heap.size := by omega); (try have : gc < w1.heap.size := by omega); have hB : Below w.heap.size w w1 := (by repeat (first | (with_reducible exact Below.refl _ _) | (with_reducible assumption) | (with_reducible refine Below.drew ?_) | (with_reducible refine Below.alloc ?_ ?_ _) | (with_reducible refine Below.setCell ?_ ?_ _) | (with_reducible refine Below.trans ?_ (Below.mono hb ?_)) | (with_reducible refine Below.trans ?_ (Below.mono hb1 ?_)) | (with_reducible refine Below.trans ?_ (Below.mono hb2 ?_)) | (with_reducible refine Below.trans ?_ (Below.mono hb3 ?_)) | (with_reducible refine Below.trans ?_ (Below.mono hb4 ?_)) | (with_reducible refine Below.trans ?_ (Below.mono hb5 ?_)) | (with_reducible refine Below.trans ?_ (Below.mono hb6 ?_)) | (with_reducible refine Below.trans ?_ (Below.mono hb7 ?_)) | (with_reducible refine Below.trans ?_ (Below.mono hb8 ?_)) | (with_reducible refine Below.trans ?_ (Below.mono hb9 ?_)) | (focus (first | omega | (simp; done) | (simp; omega))) | exact hB))
  go_wp2_with (first | (go_at_call 102; fail) | simp only [])
  have t30 : w1.heap[w.heap.size]? = some (.cells #[.int .u64 (dg 0 (p)), .int .u64 (dg 1 (p)), .int .u64 (dg 2 (p)), .int .u64 (dg 3 (p)), .int .u64 (dg 4 (p)), .int .u64 (dg 5 (p)), .int .u64 (dg 0 (n)), .int .u64 (dg 1 (n)), .int .u64 (dg 2 (n)), .int .u64 (dg 3 (n)), .int .u64 (dg 4 (n)), .int .u64 (dg 5 (n))] 104 (0, 0)) := (hb1.block _ (by simp; omega)).trans ((Below.heap_alloc _ _ _ (by simp)).trans (heap_alloc_new w _))
  have rv0 : w1.heap[w.heap.size + 1]? = some (.cells #[.int .u64 0, .int .u64 0, .int .u64 0, .int .u64 0, .int .u64 0, .int .u64 0, .int .u64 0, .int .u64 0, .int .u64 0, .int .u64 0, .int .u64 0, .int .u64 0] 104 (0, 0)) := (hb1.block _ (by simp)).trans (newest_at _ _ (by simp))
  have kr0 := lt_of_block rv0
  refine (plus_any _ _ _).mono ?_
  rintro e w2 ⟨rfl, hb2⟩
  have t3 : w2.heap[w.heap.size]? = some (.cells #[.int .u64 (dg 0 (p)), .int .u64 (dg 1 (p)), .int .u64 (dg 2 (p)), .int .u64 (dg 3 (p)), .int .u64 (dg 4 (p)), .int .u64 (dg 5 (p)), .int .u64 (dg 0 (n)), .int .u64 (dg 1 (n)), .int .u64 (dg 2 (n)), .int .u64 (dg 3 (n)), .int .u64 (dg 4 (n)), .int .u64 (dg 5 (n))] 104 (0, 0)) := (hb2.block _ (by simp; omega)).trans ((Below.heap_alloc _ _ _ (by omega)).trans t30)
  have rv : w2.heap[w.heap.size + 1]? = some (.cells #[.int .u64 0, .int .u64 0, .int .u64 0, .int .u64 0, .int .u64 0, .int .u64 0, .int .u64 0, .int .u64 0, .int .u64 0, .int .u64 0, .int .u64 0, .int .u64 0] 104 (0, 0)) := (hb2.block _ (by simp; omega)).trans ((Below.heap_alloc _ _ _ kr0).trans rv0)
  have BW : Below w.heap.size w w2 := (by repeat (first | (with_reducible exact Below.refl _ _) | (with_reducible assumption) | (with_reducible refine Below.drew ?_) | (with_reducible refine Below.alloc ?_ ?_ _) | (with_reducible refine Below.setCell ?_ ?_ _) | (with_reducible refine Below.trans ?_ (Below.mono hb ?_)) | (with_reducible refine Below.trans ?_ (Below.mono hb1 ?_)) | (with_reducible refine Below.trans ?_ (Below.mono hb2 ?_)) | (with_reducible refine Below.trans ?_ (Below.mono hb3 ?_)) | (with_reducible refine Below.trans ?_ (Below.mono hb4 ?_)) | (with_reducible refine Below.trans ?_ (Below.mono hb5 ?_)) | (with_reducible refine Below.trans ?_ (Below.mono hb6 ?_)) | (with_reducible refine Below.trans ?_ (Below.mono hb7 ?_)) | (with_reducible refine Below.trans ?_ (Below.mono hb8 ?_)) | (with_reducible refine Below.trans ?_ (Below.mono hb9 ?_)) | (focus (first | omega | (simp; done) | (simp; omega))) | exact hB))
  have x0 := cell_of_row w2 w.heap.size 0 _ _ _ t3
  have x1 := cell_of_row w2 w.heap.size 1 _ _ _ t3
  have x2 := cell_of_row w2 w.heap.size 2 _ _ _ t3
  have x3 := cell_of_row w2 w.heap.size 3 _ _ _ t3
  have x4 := cell_of_row w2 w.heap.size 4 _ _ _ t3
  have x5 := cell_of_row w2 w.heap.size 5 _ _ _ t3
  have x6 := cell_of_row w2 w.heap.size 6 _ _ _ t3
  have x7 := cell_of_row w2 w.heap.size 7 _ _ _ t3
  have x8 := cell_of_row w2 w.heap.size 8 _ _ _ t3
  have x9 := cell_of_row w2 w.heap.size 9 _ _ _ t3
  have x10 := cell_of_row w2 w.heap.size 10 _ _ _ t3
  have x11 := cell_of_row w2 w.heap.size 11 _ _ _ t3
  have xf : ∀ i, w2.frozen? ⟨w.heap.size, i, none⟩ = false := fun i => by simp [World.frozen?, t3]
  simp only [List.getElem?_toArray, List.getElem?_cons_zero, List.getElem?_cons_succ] at x0 x1 x2 x3 x4 x5 x6 x7 x8 x9 x10 x11
  have T3 := Lib.hid t3
  have RV := Lib.hid rv
  clear t3 rv t30 rv0 hc1 hf1 hB hb1 hb2
  go_upto_region 5 with (fail)
  obtain ⟨wc, hwc⟩ : ∃ wc : World, wc = ((((((w2.setCell ⟨w.heap.size, 6, none⟩ (.int .u64 (dg 0 (n + absI a * absI b)))).setCell ⟨w.heap.size, 7, none⟩ (.int .u64 (dg 1 (n + absI a * absI b)))).setCell ⟨w.heap.size, 8, none⟩ (.int .u64 (dg 2 (n + absI a * absI b)))).setCell ⟨w.heap.size, 9, none⟩ (.int .u64 (dg 3 (n + absI a * absI b)))).setCell ⟨w.heap.size, 10, none⟩ (.int .u64 (dg 4 (n + absI a * absI b)))).setCell ⟨w.heap.size, 11, none⟩ (.int .u64 (dg 5 (n + absI a * absI b)))) := ⟨_, rfl⟩
  rw [← hwc]
  have t8 : wc.heap[w.heap.size]? = some (.cells #[.int .u64 (dg 0 (p)), .int .u64 (dg 1 (p)), .int .u64 (dg 2 (p)), .int .u64 (dg 3 (p)), .int .u64 (dg 4 (p)), .int .u64 (dg 5 (p)), .int .u64 (dg 0 (n + absI a * absI b)), .int .u64 (dg 1 (n + absI a * absI b)), .int .u64 (dg 2 (n + absI a * absI b)), .int .u64 (dg 3 (n + absI a * absI b)), .int .u64 (dg 4 (n + absI a * absI b)), .int .u64 (dg 5 (n + absI a * absI b))] 104 (0, 0)) := by rw [hwc]; exact setHi (.int .u64 (dg 0 (n + absI a * absI b))) (.int .u64 (dg 1 (n + absI a * absI b))) (.int .u64 (dg 2 (n + absI a * absI b))) (.int .u64 (dg 3 (n + absI a * absI b))) (.int .u64 (dg 4 (n + absI a * absI b))) (.int .u64 (dg 5 (n + absI a * absI b))) T3.out
  have rv1 : wc.heap[w.heap.size + 1]? = some (.cells #[.int .u64 0, .int .u64 0, .int .u64 0, .int .u64 0, .int .u64 0, .int .u64 0, .int .u64 0, .int .u64 0, .int .u64 0, .int .u64 0, .int .u64 0, .int .u64 0] 104 (0, 0)) := by rw [hwc]; exact (setHi_far (.int .u64 (dg 0 (n + absI a * absI b))) (.int .u64 (dg 1 (n + absI a * absI b))) (.int .u64 (dg 2 (n + absI a * absI b))) (.int .u64 (dg 3 (n + absI a * absI b))) (.int .u64 (dg 4 (n + absI a * absI b))) (.int .u64 (dg 5 (n + absI a * absI b))) (Nat.succ_ne_self _)).trans RV.out
  have BW1 : Below w.heap.size w wc := by rw [hwc]; exact BW.trans (setHi_below (.int .u64 (dg 0 (n + absI a * absI b))) (.int .u64 (dg 1 (n + absI a * absI b))) (.int .u64 (dg 2 (n + absI a * absI b))) (.int .u64 (dg 3 (n + absI a * absI b))) (.int .u64 (dg 4 (n + absI a * absI b))) (.int .u64 (dg 5 (n + absI a * absI b))) (Nat.le_refl _))
  clear hwc x0 x1 x2 x3 x4 x5 x6 x7 x8 x9 x10 x11 xf T3 RV BW
  have y0 := cell_of_row wc w.heap.size 0 _ _ _ t8
  have y1 := cell_of_row wc w.heap.size 1 _ _ _ t8
  have y2 := cell_of_row wc w.heap.size 2 _ _ _ t8
  have y3 := cell_of_row wc w.heap.size 3 _ _ _ t8
  have y4 := cell_of_row wc w.heap.size 4 _ _ _ t8
  have y5 := cell_of_row wc w.heap.size 5 _ _ _ t8
  have y6 := cell_of_row wc w.heap.size 6 _ _ _ t8
  have y7 := cell_of_row wc w.heap.size 7 _ _ _ t8
  have y8 := cell_of_row wc w.heap.size 8 _ _ _ t8
  have y9 := cell_of_row wc w.heap.size 9 _ _ _ t8
  have y10 := cell_of_row wc w.heap.size 10 _ _ _ t8
  have y11 := cell_of_row wc w.heap.size 11 _ _ _ t8
  have z0 := cell_of_row wc (w.heap.size + 1) 0 _ _ _ rv1
  have z1 := cell_of_row wc (w.heap.size + 1) 1 _ _ _ rv1
  have z2 := cell_of_row wc (w.heap.size + 1) 2 _ _ _ rv1
  have z3 := cell_of_row wc (w.heap.size + 1) 3 _ _ _ rv1
  have z4 := cell_of_row wc (w.heap.size + 1) 4 _ _ _ rv1
  have z5 := cell_of_row wc (w.heap.size + 1) 5 _ _ _ rv1
  have z6 := cell_of_row wc (w.heap.size + 1) 6 _ _ _ rv1
  have z7 := cell_of_row wc (w.heap.size + 1) 7 _ _ _ rv1
  have z8 := cell_of_row wc (w.heap.size + 1) 8 _ _ _ rv1
  have z9 := cell_of_row wc (w.heap.size + 1) 9 _ _ _ rv1
  have z10 := cell_of_row wc (w.heap.size + 1) 10 _ _ _ rv1
  have z11 := cell_of_row wc (w.heap.size + 1) 11 _ _ _ rv1
  have zf : ∀ i, wc.frozen? ⟨w.heap.size + 1, i, none⟩ = false := fun i => by simp [World.frozen?, rv1]
  simp only [List.getElem?_toArray, List.getElem?_cons_zero, List.getElem?_cons_succ] at y0 z0 y1 z1 y2 z2 y3 z3 y4 z4 y5 z5 y6 z6 y7 z7 y8 z8 y9 z9 y10 z10 y11 z11
  have k8 := lt_of_block t8
  have kw := lt_of_block rv1
  clear rv1 t8
  go_wp2
  exact bodyPost_ret (v := .agg #[.int .u64 (dg 0 (p)), .int .u64 (dg 1 (p)), .int .u64 (dg 2 (p)), .int .u64 (dg 3 (p)), .int .u64 (dg 4 (p)), .int .u64 (dg 5 (p)), .int .u64 (dg 0 (n + absI a * absI b)), .int .u64 (dg 1 (n + absI a * absI b)), .int .u64 (dg 2 (n + absI a * absI b)), .int .u64 (dg 3 (n + absI a * absI b)), .int .u64 (dg 4 (n + absI a * absI b)), .int .u64 (dg 5 (n + absI a * absI b))]) (by simp [*, results, Try.results74, go_sem]) rfl ⟨rfl, (by repeat (first | (with_reducible exact Below.refl _ _) | (with_reducible assumption) | (with_reducible refine Below.drew ?_) | (with_reducible refine Below.alloc ?_ ?_ _) | (with_reducible refine Below.setCell ?_ ?_ _) | (with_reducible refine Below.trans ?_ (Below.mono hb ?_)) | (with_reducible refine Below.trans ?_ (Below.mono hb1 ?_)) | (with_reducible refine Below.trans ?_ (Below.mono hb2 ?_)) | (with_reducible refine Below.trans ?_ (Below.mono hb3 ?_)) | (with_reducible refine Below.trans ?_ (Below.mono hb4 ?_)) | (with_reducible refine Below.trans ?_ (Below.mono hb5 ?_)) | (with_reducible refine Below.trans ?_ (Below.mono hb6 ?_)) | (with_reducible refine Below.trans ?_ (Below.mono hb7 ?_)) | (with_reducible refine Below.trans ?_ (Below.mono hb8 ?_)) | (with_reducible refine Below.trans ?_ (Below.mono hb9 ?_)) | (focus (first | omega | (simp; done) | (simp; omega))) | exact hB))⟩

set_option maxHeartbeats 4000000 in
theorem smul_ft (p n a b : Int) (ha : In64 a) (hb0 : In64 b) (h1 : decide (a < 0) = false) (h2 : decide (b < 0) = true) (w : World) :
    Calls Try.prog 74 #[.agg #[.int .u64 (dg 0 (p)), .int .u64 (dg 1 (p)), .int .u64 (dg 2 (p)), .int .u64 (dg 3 (p)), .int .u64 (dg 4 (p)), .int .u64 (dg 5 (p)), .int .u64 (dg 0 (n)), .int .u64 (dg 1 (n)), .int .u64 (dg 2 (n)), .int .u64 (dg 3 (n)), .int .u64 (dg 4 (n)), .int .u64 (dg 5 (n))], .int .i64 a, .int .i64 b] w fun e w' => e = .returned (.agg #[.int .u64 (dg 0 (p)), .int .u64 (dg 1 (p)), .int .u64 (dg 2 (p)), .int .u64 (dg 3 (p)), .int .u64 (dg 4 (p)), .int .u64 (dg 5 (p)), .int .u64 (dg 0 (n + absI a * absI b)), .int .u64 (dg 1 (n + absI a * absI b)), .int .u64 (dg 2 (n + absI a * absI b)), .int .u64 (dg 3 (n + absI a * absI b)), .int .u64 (dg 4 (n + absI a * absI b)), .int .u64 (dg 5 (n + absI a * absI b))]) ∧ Below w.heap.size w w' := by
  have hU : U64 (absI a) := by unfold In64 at ha; unfold U64 absI; split <;> omega
  have hU2 : U64 (absI b) := by unfold In64 at hb0; unfold U64 absI; split <;> omega
  have PR := Lib.hid (fun W => product_any (absI a) (absI b) hU hU2 W)
  go_enter Try.func74, Try.ntmps74
  go_wp2_with fail
  refine (size02_any a ha _).mono ?_
  rintro e w' ⟨rfl, rfl⟩
  go_wp2_with fail
  refine (size02_any b hb0 _).mono ?_
  rintro e w' ⟨rfl, rfl⟩
  go_wp2_with fail
  refine (PR.out _).mono ?_
  rintro e w1 ⟨rfl, hb1⟩; obtain ⟨hc1, hf1, hz1⟩ := bcell hb1; (try simp at hz1); (try have : w.heap.size < w1.heap.size := by omega); (try have : w.heap.size + 1 < w1.heap.size := by omega); (try have : w.heap.size + 1 + 1 < w1.heap.size := by omega); (try have : w.heap.size + 1 + 1 + 1 < w1.heap.size := by omega); (try have : g < w1.heap.size := by omega); (try have : ga < w1.heap.size := by omega); (try have : gb < w1.heap.size := by omega); (try have : gc < w1.heap.size := by omega); have hB : Below w.heap.size w w1 := (by repeat (first | (with_reducible exact Below.refl _ _) | (with_reducible assumption) | (with_reducible refine Below.drew ?_) | (with_reducible refine Below.alloc ?_ ?_ _) | (with_reducible refine Below.setCell ?_ ?_ _) | (with_reducible refine Below.trans ?_ (Below.mono hb ?_)) | (with_reducible refine Below.trans ?_ (Below.mono hb1 ?_)) | (with_reducible refine Below.trans ?_ (Below.mono hb2 ?_)) | (with_reducible refine Below.trans ?_ (Below.mono hb3 ?_)) | (with_reducible refine Below.trans ?_ (Below.mono hb4 ?_)) | (with_reducible refine Below.trans ?_ (Below.mono hb5 ?_)) | (with_reducible refine Below.trans ?_ (Below.mono hb6 ?_)) | (with_reducible refine Below.trans ?_ (Below.mono hb7 ?_)) | (with_reducible refine Below.trans ?_ (Below.mono hb8 ?_)) | (with_reducible refine Below.trans ?_ (Below.mono hb9 ?_)) | (focus (first | omega | (simp; done) | (simp; omega))) | exact hB))
  go_wp2_with (first | (go_at_call 102; fail) | simp only [])
  have t30 : w1.heap[w.heap.size]? = some (.cells #[.int .u64 (dg 0 (p)), .int .u64 (dg 1 (p)), .int .u64 (dg 2 (p)), .int .u64 (dg 3 (p)), .int .u64 (dg 4 (p)), .int .u64 (dg 5 (p)), .int .u64 (dg 0 (n)), .int .u64 (dg 1 (n)), .int .u64 (dg 2 (n)), .int .u64 (dg 3 (n)), .int .u64 (dg 4 (n)), .int .u64 (dg 5 (n))] 104 (0, 0)) := (hb1.block _ (by simp; omega)).trans ((Below.heap_alloc _ _ _ (by simp)).trans (heap_alloc_new w _))
  have rv0 : w1.heap[w.heap.size + 1]? = some (.cells #[.int .u64 0, .int .u64 0, .int .u64 0, .int .u64 0, .int .u64 0, .int .u64 0, .int .u64 0, .int .u64 0, .int .u64 0, .int .u64 0, .int .u64 0, .int .u64 0] 104 (0, 0)) := (hb1.block _ (by simp)).trans (newest_at _ _ (by simp))
  have kr0 := lt_of_block rv0
  refine (plus_any _ _ _).mono ?_
  rintro e w2 ⟨rfl, hb2⟩
  have t3 : w2.heap[w.heap.size]? = some (.cells #[.int .u64 (dg 0 (p)), .int .u64 (dg 1 (p)), .int .u64 (dg 2 (p)), .int .u64 (dg 3 (p)), .int .u64 (dg 4 (p)), .int .u64 (dg 5 (p)), .int .u64 (dg 0 (n)), .int .u64 (dg 1 (n)), .int .u64 (dg 2 (n)), .int .u64 (dg 3 (n)), .int .u64 (dg 4 (n)), .int .u64 (dg 5 (n))] 104 (0, 0)) := (hb2.block _ (by simp; omega)).trans ((Below.heap_alloc _ _ _ (by omega)).trans t30)
  have rv : w2.heap[w.heap.size + 1]? = some (.cells #[.int .u64 0, .int .u64 0, .int .u64 0, .int .u64 0, .int .u64 0, .int .u64 0, .int .u64 0, .int .u64 0, .int .u64 0, .int .u64 0, .int .u64 0, .int .u64 0] 104 (0, 0)) := (hb2.block _ (by simp; omega)).trans ((Below.heap_alloc _ _ _ kr0).trans rv0)
  have BW : Below w.heap.size w w2 := (by repeat (first | (with_reducible exact Below.refl _ _) | (with_reducible assumption) | (with_reducible refine Below.drew ?_) | (with_reducible refine Below.alloc ?_ ?_ _) | (with_reducible refine Below.setCell ?_ ?_ _) | (with_reducible refine Below.trans ?_ (Below.mono hb ?_)) | (with_reducible refine Below.trans ?_ (Below.mono hb1 ?_)) | (with_reducible refine Below.trans ?_ (Below.mono hb2 ?_)) | (with_reducible refine Below.trans ?_ (Below.mono hb3 ?_)) | (with_reducible refine Below.trans ?_ (Below.mono hb4 ?_)) | (with_reducible refine Below.trans ?_ (Below.mono hb5 ?_)) | (with_reducible refine Below.trans ?_ (Below.mono hb6 ?_)) | (with_reducible refine Below.trans ?_ (Below.mono hb7 ?_)) | (with_reducible refine Below.trans ?_ (Below.mono hb8 ?_)) | (with_reducible refine Below.trans ?_ (Below.mono hb9 ?_)) | (focus (first | omega | (simp; done) | (simp; omega))) | exact hB))
  have x0 := cell_of_row w2 w.heap.size 0 _ _ _ t3
  have x1 := cell_of_row w2 w.heap.size 1 _ _ _ t3
  have x2 := cell_of_row w2 w.heap.size 2 _ _ _ t3
  have x3 := cell_of_row w2 w.heap.size 3 _ _ _ t3
  have x4 := cell_of_row w2 w.heap.size 4 _ _ _ t3
  have x5 := cell_of_row w2 w.heap.size 5 _ _ _ t3
  have x6 := cell_of_row w2 w.heap.size 6 _ _ _ t3
  have x7 := cell_of_row w2 w.heap.size 7 _ _ _ t3
  have x8 := cell_of_row w2 w.heap.size 8 _ _ _ t3
  have x9 := cell_of_row w2 w.heap.size 9 _ _ _ t3
  have x10 := cell_of_row w2 w.heap.size 10 _ _ _ t3
  have x11 := cell_of_row w2 w.heap.size 11 _ _ _ t3
  have xf : ∀ i, w2.frozen? ⟨w.heap.size, i, none⟩ = false := fun i => by simp [World.frozen?, t3]
  simp only [List.getElem?_toArray, List.getElem?_cons_zero, List.getElem?_cons_succ] at x0 x1 x2 x3 x4 x5 x6 x7 x8 x9 x10 x11
  have T3 := Lib.hid t3
  have RV := Lib.hid rv
  clear t3 rv t30 rv0 hc1 hf1 hB hb1 hb2
  go_upto_region 5 with (fail)
  obtain ⟨wc, hwc⟩ : ∃ wc : World, wc = ((((((w2.setCell ⟨w.heap.size, 6, none⟩ (.int .u64 (dg 0 (n + absI a * absI b)))).setCell ⟨w.heap.size, 7, none⟩ (.int .u64 (dg 1 (n + absI a * absI b)))).setCell ⟨w.heap.size, 8, none⟩ (.int .u64 (dg 2 (n + absI a * absI b)))).setCell ⟨w.heap.size, 9, none⟩ (.int .u64 (dg 3 (n + absI a * absI b)))).setCell ⟨w.heap.size, 10, none⟩ (.int .u64 (dg 4 (n + absI a * absI b)))).setCell ⟨w.heap.size, 11, none⟩ (.int .u64 (dg 5 (n + absI a * absI b)))) := ⟨_, rfl⟩
  rw [← hwc]
  have t8 : wc.heap[w.heap.size]? = some (.cells #[.int .u64 (dg 0 (p)), .int .u64 (dg 1 (p)), .int .u64 (dg 2 (p)), .int .u64 (dg 3 (p)), .int .u64 (dg 4 (p)), .int .u64 (dg 5 (p)), .int .u64 (dg 0 (n + absI a * absI b)), .int .u64 (dg 1 (n + absI a * absI b)), .int .u64 (dg 2 (n + absI a * absI b)), .int .u64 (dg 3 (n + absI a * absI b)), .int .u64 (dg 4 (n + absI a * absI b)), .int .u64 (dg 5 (n + absI a * absI b))] 104 (0, 0)) := by rw [hwc]; exact setHi (.int .u64 (dg 0 (n + absI a * absI b))) (.int .u64 (dg 1 (n + absI a * absI b))) (.int .u64 (dg 2 (n + absI a * absI b))) (.int .u64 (dg 3 (n + absI a * absI b))) (.int .u64 (dg 4 (n + absI a * absI b))) (.int .u64 (dg 5 (n + absI a * absI b))) T3.out
  have rv1 : wc.heap[w.heap.size + 1]? = some (.cells #[.int .u64 0, .int .u64 0, .int .u64 0, .int .u64 0, .int .u64 0, .int .u64 0, .int .u64 0, .int .u64 0, .int .u64 0, .int .u64 0, .int .u64 0, .int .u64 0] 104 (0, 0)) := by rw [hwc]; exact (setHi_far (.int .u64 (dg 0 (n + absI a * absI b))) (.int .u64 (dg 1 (n + absI a * absI b))) (.int .u64 (dg 2 (n + absI a * absI b))) (.int .u64 (dg 3 (n + absI a * absI b))) (.int .u64 (dg 4 (n + absI a * absI b))) (.int .u64 (dg 5 (n + absI a * absI b))) (Nat.succ_ne_self _)).trans RV.out
  have BW1 : Below w.heap.size w wc := by rw [hwc]; exact BW.trans (setHi_below (.int .u64 (dg 0 (n + absI a * absI b))) (.int .u64 (dg 1 (n + absI a * absI b))) (.int .u64 (dg 2 (n + absI a * absI b))) (.int .u64 (dg 3 (n + absI a * absI b))) (.int .u64 (dg 4 (n + absI a * absI b))) (.int .u64 (dg 5 (n + absI a * absI b))) (Nat.le_refl _))
  clear hwc x0 x1 x2 x3 x4 x5 x6 x7 x8 x9 x10 x11 xf T3 RV BW
  have y0 := cell_of_row wc w.heap.size 0 _ _ _ t8
  have y1 := cell_of_row wc w.heap.size 1 _ _ _ t8
  have y2 := cell_of_row wc w.heap.size 2 _ _ _ t8
  have y3 := cell_of_row wc w.heap.size 3 _ _ _ t8
  have y4 := cell_of_row wc w.heap.size 4 _ _ _ t8
  have y5 := cell_of_row wc w.heap.size 5 _ _ _ t8
  have y6 := cell_of_row wc w.heap.size 6 _ _ _ t8
  have y7 := cell_of_row wc w.heap.size 7 _ _ _ t8
  have y8 := cell_of_row wc w.heap.size 8 _ _ _ t8
  have y9 := cell_of_row wc w.heap.size 9 _ _ _ t8
  have y10 := cell_of_row wc w.heap.size 10 _ _ _ t8
  have y11 := cell_of_row wc w.heap.size 11 _ _ _ t8
  have z0 := cell_of_row wc (w.heap.size + 1) 0 _ _ _ rv1
  have z1 := cell_of_row wc (w.heap.size + 1) 1 _ _ _ rv1
  have z2 := cell_of_row wc (w.heap.size + 1) 2 _ _ _ rv1
  have z3 := cell_of_row wc (w.heap.size + 1) 3 _ _ _ rv1
  have z4 := cell_of_row wc (w.heap.size + 1) 4 _ _ _ rv1
  have z5 := cell_of_row wc (w.heap.size + 1) 5 _ _ _ rv1
  have z6 := cell_of_row wc (w.heap.size + 1) 6 _ _ _ rv1
  have z7 := cell_of_row wc (w.heap.size + 1) 7 _ _ _ rv1
  have z8 := cell_of_row wc (w.heap.size + 1) 8 _ _ _ rv1
  have z9 := cell_of_row wc (w.heap.size + 1) 9 _ _ _ rv1
  have z10 := cell_of_row wc (w.heap.size + 1) 10 _ _ _ rv1
  have z11 := cell_of_row wc (w.heap.size + 1) 11 _ _ _ rv1
  have zf : ∀ i, wc.frozen? ⟨w.heap.size + 1, i, none⟩ = false := fun i => by simp [World.frozen?, rv1]
  simp only [List.getElem?_toArray, List.getElem?_cons_zero, List.getElem?_cons_succ] at y0 z0 y1 z1 y2 z2 y3 z3 y4 z4 y5 z5 y6 z6 y7 z7 y8 z8 y9 z9 y10 z10 y11 z11
  have k8 := lt_of_block t8
  have kw := lt_of_block rv1
  clear rv1 t8
  go_wp2
  exact bodyPost_ret (v := .agg #[.int .u64 (dg 0 (p)), .int .u64 (dg 1 (p)), .int .u64 (dg 2 (p)), .int .u64 (dg 3 (p)), .int .u64 (dg 4 (p)), .int .u64 (dg 5 (p)), .int .u64 (dg 0 (n + absI a * absI b)), .int .u64 (dg 1 (n + absI a * absI b)), .int .u64 (dg 2 (n + absI a * absI b)), .int .u64 (dg 3 (n + absI a * absI b)), .int .u64 (dg 4 (n + absI a * absI b)), .int .u64 (dg 5 (n + absI a * absI b))]) (by simp [*, results, Try.results74, go_sem]) rfl ⟨rfl, (by repeat (first | (with_reducible exact Below.refl _ _) | (with_reducible assumption) | (with_reducible refine Below.drew ?_) | (with_reducible refine Below.alloc ?_ ?_ _) | (with_reducible refine Below.setCell ?_ ?_ _) | (with_reducible refine Below.trans ?_ (Below.mono hb ?_)) | (with_reducible refine Below.trans ?_ (Below.mono hb1 ?_)) | (with_reducible refine Below.trans ?_ (Below.mono hb2 ?_)) | (with_reducible refine Below.trans ?_ (Below.mono hb3 ?_)) | (with_reducible refine Below.trans ?_ (Below.mono hb4 ?_)) | (with_reducible refine Below.trans ?_ (Below.mono hb5 ?_)) | (with_reducible refine Below.trans ?_ (Below.mono hb6 ?_)) | (with_reducible refine Below.trans ?_ (Below.mono hb7 ?_)) | (with_reducible refine Below.trans ?_ (Below.mono hb8 ?_)) | (with_reducible refine Below.trans ?_ (Below.mono hb9 ?_)) | (focus (first | omega | (simp; done) | (simp; omega))) | exact hB))⟩

set_option maxHeartbeats 4000000 in
theorem smul_tt (p n a b : Int) (ha : In64 a) (hb0 : In64 b) (h1 : decide (a < 0) = true) (h2 : decide (b < 0) = true) (w : World) :
    Calls Try.prog 74 #[.agg #[.int .u64 (dg 0 (p)), .int .u64 (dg 1 (p)), .int .u64 (dg 2 (p)), .int .u64 (dg 3 (p)), .int .u64 (dg 4 (p)), .int .u64 (dg 5 (p)), .int .u64 (dg 0 (n)), .int .u64 (dg 1 (n)), .int .u64 (dg 2 (n)), .int .u64 (dg 3 (n)), .int .u64 (dg 4 (n)), .int .u64 (dg 5 (n))], .int .i64 a, .int .i64 b] w fun e w' => e = .returned (.agg #[.int .u64 (dg 0 (p + absI a * absI b)), .int .u64 (dg 1 (p + absI a * absI b)), .int .u64 (dg 2 (p + absI a * absI b)), .int .u64 (dg 3 (p + absI a * absI b)), .int .u64 (dg 4 (p + absI a * absI b)), .int .u64 (dg 5 (p + absI a * absI b)), .int .u64 (dg 0 (n)), .int .u64 (dg 1 (n)), .int .u64 (dg 2 (n)), .int .u64 (dg 3 (n)), .int .u64 (dg 4 (n)), .int .u64 (dg 5 (n))]) ∧ Below w.heap.size w w' := by
  have hU : U64 (absI a) := by unfold In64 at ha; unfold U64 absI; split <;> omega
  have hU2 : U64 (absI b) := by unfold In64 at hb0; unfold U64 absI; split <;> omega
  have PR := Lib.hid (fun W => product_any (absI a) (absI b) hU hU2 W)
  go_enter Try.func74, Try.ntmps74
  go_wp2_with fail
  refine (size02_any a ha _).mono ?_
  rintro e w' ⟨rfl, rfl⟩
  go_wp2_with fail
  refine (size02_any b hb0 _).mono ?_
  rintro e w' ⟨rfl, rfl⟩
  go_wp2_with fail
  refine (PR.out _).mono ?_
  rintro e w1 ⟨rfl, hb1⟩; obtain ⟨hc1, hf1, hz1⟩ := bcell hb1; (try simp at hz1); (try have : w.heap.size < w1.heap.size := by omega); (try have : w.heap.size + 1 < w1.heap.size := by omega); (try have : w.heap.size + 1 + 1 < w1.heap.size := by omega); (try have : w.heap.size + 1 + 1 + 1 < w1.heap.size := by omega); (try have : g < w1.heap.size := by omega); (try have : ga < w1.heap.size := by omega); (try have : gb < w1.heap.size := by omega); (try have : gc < w1.heap.size := by omega); have hB : Below w.heap.size w w1 := (by repeat (first | (with_reducible exact Below.refl _ _) | (with_reducible assumption) | (with_reducible refine Below.drew ?_) | (with_reducible refine Below.alloc ?_ ?_ _) | (with_reducible refine Below.setCell ?_ ?_ _) | (with_reducible refine Below.trans ?_ (Below.mono hb ?_)) | (with_reducible refine Below.trans ?_ (Below.mono hb1 ?_)) | (with_reducible refine Below.trans ?_ (Below.mono hb2 ?_)) | (with_reducible refine Below.trans ?_ (Below.mono hb3 ?_)) | (with_reducible refine Below.trans ?_ (Below.mono hb4 ?_)) | (with_reducible refine Below.trans ?_ (Below.mono hb5 ?_)) | (with_reducible refine Below.trans ?_ (Below.mono hb6 ?_)) | (with_reducible refine Below.trans ?_ (Below.mono hb7 ?_)) | (with_reducible refine Below.trans ?_ (Below.mono hb8 ?_)) | (with_reducible refine Below.trans ?_ (Below.mono hb9 ?_)) | (focus (first | omega | (simp; done) | (simp; omega))) | exact hB))
  go_wp2_with (first | (go_at_call 102; fail) | simp only [])
  have t30 : w1.heap[w.heap.size]? = some (.cells #[.int .u64 (dg 0 (p)), .int .u64 (dg 1 (p)), .int .u64 (dg 2 (p)), .int .u64 (dg 3 (p)), .int .u64 (dg 4 (p)), .int .u64 (dg 5 (p)), .int .u64 (dg 0 (n)), .int .u64 (dg 1 (n)), .int .u64 (dg 2 (n)), .int .u64 (dg 3 (n)), .int .u64 (dg 4 (n)), .int .u64 (dg 5 (n))] 104 (0, 0)) := (hb1.block _ (by simp; omega)).trans ((Below.heap_alloc _ _ _ (by simp)).trans (heap_alloc_new w _))
  have rv0 : w1.heap[w.heap.size + 1]? = some (.cells #[.int .u64 0, .int .u64 0, .int .u64 0, .int .u64 0, .int .u64 0, .int .u64 0, .int .u64 0, .int .u64 0, .int .u64 0, .int .u64 0, .int .u64 0, .int .u64 0] 104 (0, 0)) := (hb1.block _ (by simp)).trans (newest_at _ _ (by simp))
  have kr0 := lt_of_block rv0
  refine (plus_any _ _ _).mono ?_
  rintro e w2 ⟨rfl, hb2⟩
  have t3 : w2.heap[w.heap.size]? = some (.cells #[.int .u64 (dg 0 (p)), .int .u64 (dg 1 (p)), .int .u64 (dg 2 (p)), .int .u64 (dg 3 (p)), .int .u64 (dg 4 (p)), .int .u64 (dg 5 (p)), .int .u64 (dg 0 (n)), .int .u64 (dg 1 (n)), .int .u64 (dg 2 (n)), .int .u64 (dg 3 (n)), .int .u64 (dg 4 (n)), .int .u64 (dg 5 (n))] 104 (0, 0)) := (hb2.block _ (by simp; omega)).trans ((Below.heap_alloc _ _ _ (by omega)).trans t30)
  have rv : w2.heap[w.heap.size + 1]? = some (.cells #[.int .u64 0, .int .u64 0, .int .u64 0, .int .u64 0, .int .u64 0, .int .u64 0, .int .u64 0, .int .u64 0, .int .u64 0, .int .u64 0, .int .u64 0, .int .u64 0] 104 (0, 0)) := (hb2.block _ (by simp; omega)).trans ((Below.heap_alloc _ _ _ kr0).trans rv0)
  have BW : Below w.heap.size w w2 := (by repeat (first | (with_reducible exact Below.refl _ _) | (with_reducible assumption) | (with_reducible refine Below.drew ?_) | (with_reducible refine Below.alloc ?_ ?_ _) | (with_reducible refine Below.setCell ?_ ?_ _) | (with_reducible refine Below.trans ?_ (Below.mono hb ?_)) | (with_reducible refine Below.trans ?_ (Below.mono hb1 ?_)) | (with_reducible refine Below.trans ?_ (Below.mono hb2 ?_)) | (with_reducible refine Below.trans ?_ (Below.mono hb3 ?_)) | (with_reducible refine Below.trans ?_ (Below.mono hb4 ?_)) | (with_reducible refine Below.trans ?_ (Below.mono hb5 ?_)) | (with_reducible refine Below.trans ?_ (Below.mono hb6 ?_)) | (with_reducible refine Below.trans ?_ (Below.mono hb7 ?_)) | (with_reducible refine Below.trans ?_ (Below.mono hb8 ?_)) | (with_reducible refine Below.trans ?_ (Below.mono hb9 ?_)) | (focus (first | omega | (simp; done) | (simp; omega))) | exact hB))
  have x0 := cell_of_row w2 w.heap.size 0 _ _ _ t3
  have x1 := cell_of_row w2 w.heap.size 1 _ _ _ t3
  have x2 := cell_of_row w2 w.heap.size 2 _ _ _ t3
  have x3 := cell_of_row w2 w.heap.size 3 _ _ _ t3
  have x4 := cell_of_row w2 w.heap.size 4 _ _ _ t3
  have x5 := cell_of_row w2 w.heap.size 5 _ _ _ t3
  have x6 := cell_of_row w2 w.heap.size 6 _ _ _ t3
  have x7 := cell_of_row w2 w.heap.size 7 _ _ _ t3
  have x8 := cell_of_row w2 w.heap.size 8 _ _ _ t3
  have x9 := cell_of_row w2 w.heap.size 9 _ _ _ t3
  have x10 := cell_of_row w2 w.heap.size 10 _ _ _ t3
  have x11 := cell_of_row w2 w.heap.size 11 _ _ _ t3
  have xf : ∀ i, w2.frozen? ⟨w.heap.size, i, none⟩ = false := fun i => by simp [World.frozen?, t3]
  simp only [List.getElem?_toArray, List.getElem?_cons_zero, List.getElem?_cons_succ] at x0 x1 x2 x3 x4 x5 x6 x7 x8 x9 x10 x11
  have T3 := Lib.hid t3
  have RV := Lib.hid rv
  clear t3 rv t30 rv0 hc1 hf1 hB hb1 hb2
  go_upto_region 5 with (fail)
  obtain ⟨wc, hwc⟩ : ∃ wc : World, wc = ((((((w2.setCell ⟨w.heap.size, 0, none⟩ (.int .u64 (dg 0 (p + absI a * absI b)))).setCell ⟨w.heap.size, 1, none⟩ (.int .u64 (dg 1 (p + absI a * absI b)))).setCell ⟨w.heap.size, 2, none⟩ (.int .u64 (dg 2 (p + absI a * absI b)))).setCell ⟨w.heap.size, 3, none⟩ (.int .u64 (dg 3 (p + absI a * absI b)))).setCell ⟨w.heap.size, 4, none⟩ (.int .u64 (dg 4 (p + absI a * absI b)))).setCell ⟨w.heap.size, 5, none⟩ (.int .u64 (dg 5 (p + absI a * absI b)))) := ⟨_, rfl⟩
  rw [← hwc]
  have t8 : wc.heap[w.heap.size]? = some (.cells #[.int .u64 (dg 0 (p + absI a * absI b)), .int .u64 (dg 1 (p + absI a * absI b)), .int .u64 (dg 2 (p + absI a * absI b)), .int .u64 (dg 3 (p + absI a * absI b)), .int .u64 (dg 4 (p + absI a * absI b)), .int .u64 (dg 5 (p + absI a * absI b)), .int .u64 (dg 0 (n)), .int .u64 (dg 1 (n)), .int .u64 (dg 2 (n)), .int .u64 (dg 3 (n)), .int .u64 (dg 4 (n)), .int .u64 (dg 5 (n))] 104 (0, 0)) := by rw [hwc]; exact setLo (.int .u64 (dg 0 (p + absI a * absI b))) (.int .u64 (dg 1 (p + absI a * absI b))) (.int .u64 (dg 2 (p + absI a * absI b))) (.int .u64 (dg 3 (p + absI a * absI b))) (.int .u64 (dg 4 (p + absI a * absI b))) (.int .u64 (dg 5 (p + absI a * absI b))) T3.out
  have rv1 : wc.heap[w.heap.size + 1]? = some (.cells #[.int .u64 0, .int .u64 0, .int .u64 0, .int .u64 0, .int .u64 0, .int .u64 0, .int .u64 0, .int .u64 0, .int .u64 0, .int .u64 0, .int .u64 0, .int .u64 0] 104 (0, 0)) := by rw [hwc]; exact (setLo_far (.int .u64 (dg 0 (p + absI a * absI b))) (.int .u64 (dg 1 (p + absI a * absI b))) (.int .u64 (dg 2 (p + absI a * absI b))) (.int .u64 (dg 3 (p + absI a * absI b))) (.int .u64 (dg 4 (p + absI a * absI b))) (.int .u64 (dg 5 (p + absI a * absI b))) (Nat.succ_ne_self _)).trans RV.out
  have BW1 : Below w.heap.size w wc := by rw [hwc]; exact BW.trans (set6_below (.int .u64 (dg 0 (p + absI a * absI b))) (.int .u64 (dg 1 (p + absI a * absI b))) (.int .u64 (dg 2 (p + absI a * absI b))) (.int .u64 (dg 3 (p + absI a * absI b))) (.int .u64 (dg 4 (p + absI a * absI b))) (.int .u64 (dg 5 (p + absI a * absI b))) (Nat.le_refl _))
  clear hwc x0 x1 x2 x3 x4 x5 x6 x7 x8 x9 x10 x11 xf T3 RV BW
  have y0 := cell_of_row wc w.heap.size 0 _ _ _ t8
  have y1 := cell_of_row wc w.heap.size 1 _ _ _ t8
  have y2 := cell_of_row wc w.heap.size 2 _ _ _ t8
  have y3 := cell_of_row wc w.heap.size 3 _ _ _ t8
  have y4 := cell_of_row wc w.heap.size 4 _ _ _ t8
  have y5 := cell_of_row wc w.heap.size 5 _ _ _ t8
  have y6 := cell_of_row wc w.heap.size 6 _ _ _ t8
  have y7 := cell_of_row wc w.heap.size 7 _ _ _ t8
  have y8 := cell_of_row wc w.heap.size 8 _ _ _ t8
  have y9 := cell_of_row wc w.heap.size 9 _ _ _ t8
  have y10 := cell_of_row wc w.heap.size 10 _ _ _ t8
  have y11 := cell_of_row wc w.heap.size 11 _ _ _ t8
  have z0 := cell_of_row wc (w.heap.size + 1) 0 _ _ _ rv1
  have z1 := cell_of_row wc (w.heap.size + 1) 1 _ _ _ rv1
  have z2 := cell_of_row wc (w.heap.size + 1) 2 _ _ _ rv1
  have z3 := cell_of_row wc (w.heap.size + 1) 3 _ _ _ rv1
  have z4 := cell_of_row wc (w.heap.size + 1) 4 _ _ _ rv1
  have z5 := cell_of_row wc (w.heap.size + 1) 5 _ _ _ rv1
  have z6 := cell_of_row wc (w.heap.size + 1) 6 _ _ _ rv1
  have z7 := cell_of_row wc (w.heap.size + 1) 7 _ _ _ rv1
  have z8 := cell_of_row wc (w.heap.size + 1) 8 _ _ _ rv1
  have z9 := cell_of_row wc (w.heap.size + 1) 9 _ _ _ rv1
  have z10 := cell_of_row wc (w.heap.size + 1) 10 _ _ _ rv1
  have z11 := cell_of_row wc (w.heap.size + 1) 11 _ _ _ rv1
  have zf : ∀ i, wc.frozen? ⟨w.heap.size + 1, i, none⟩ = false := fun i => by simp [World.frozen?, rv1]
  simp only [List.getElem?_toArray, List.getElem?_cons_zero, List.getElem?_cons_succ] at y0 z0 y1 z1 y2 z2 y3 z3 y4 z4 y5 z5 y6 z6 y7 z7 y8 z8 y9 z9 y10 z10 y11 z11
  have k8 := lt_of_block t8
  have kw := lt_of_block rv1
  clear rv1 t8
  go_wp2
  exact bodyPost_ret (v := .agg #[.int .u64 (dg 0 (p + absI a * absI b)), .int .u64 (dg 1 (p + absI a * absI b)), .int .u64 (dg 2 (p + absI a * absI b)), .int .u64 (dg 3 (p + absI a * absI b)), .int .u64 (dg 4 (p + absI a * absI b)), .int .u64 (dg 5 (p + absI a * absI b)), .int .u64 (dg 0 (n)), .int .u64 (dg 1 (n)), .int .u64 (dg 2 (n)), .int .u64 (dg 3 (n)), .int .u64 (dg 4 (n)), .int .u64 (dg 5 (n))]) (by simp [*, results, Try.results74, go_sem]) rfl ⟨rfl, (by repeat (first | (with_reducible exact Below.refl _ _) | (with_reducible assumption) | (with_reducible refine Below.drew ?_) | (with_reducible refine Below.alloc ?_ ?_ _) | (with_reducible refine Below.setCell ?_ ?_ _) | (with_reducible refine Below.trans ?_ (Below.mono hb ?_)) | (with_reducible refine Below.trans ?_ (Below.mono hb1 ?_)) | (with_reducible refine Below.trans ?_ (Below.mono hb2 ?_)) | (with_reducible refine Below.trans ?_ (Below.mono hb3 ?_)) | (with_reducible refine Below.trans ?_ (Below.mono hb4 ?_)) | (with_reducible refine Below.trans ?_ (Below.mono hb5 ?_)) | (with_reducible refine Below.trans ?_ (Below.mono hb6 ?_)) | (with_reducible refine Below.trans ?_ (Below.mono hb7 ?_)) | (with_reducible refine Below.trans ?_ (Below.mono hb8 ?_)) | (with_reducible refine Below.trans ?_ (Below.mono hb9 ?_)) | (focus (first | omega | (simp; done) | (simp; omega))) | exact hB))⟩

set_option maxHeartbeats 4000000 in
theorem smul_ff (p n a b : Int) (ha : In64 a) (hb0 : In64 b) (h1 : decide (a < 0) = false) (h2 : decide (b < 0) = false) (w : World) :
    Calls Try.prog 74 #[.agg #[.int .u64 (dg 0 (p)), .int .u64 (dg 1 (p)), .int .u64 (dg 2 (p)), .int .u64 (dg 3 (p)), .int .u64 (dg 4 (p)), .int .u64 (dg 5 (p)), .int .u64 (dg 0 (n)), .int .u64 (dg 1 (n)), .int .u64 (dg 2 (n)), .int .u64 (dg 3 (n)), .int .u64 (dg 4 (n)), .int .u64 (dg 5 (n))], .int .i64 a, .int .i64 b] w fun e w' => e = .returned (.agg #[.int .u64 (dg 0 (p + absI a * absI b)), .int .u64 (dg 1 (p + absI a * absI b)), .int .u64 (dg 2 (p + absI a * absI b)), .int .u64 (dg 3 (p + absI a * absI b)), .int .u64 (dg 4 (p + absI a * absI b)), .int .u64 (dg 5 (p + absI a * absI b)), .int .u64 (dg 0 (n)), .int .u64 (dg 1 (n)), .int .u64 (dg 2 (n)), .int .u64 (dg 3 (n)), .int .u64 (dg 4 (n)), .int .u64 (dg 5 (n))]) ∧ Below w.heap.size w w' := by
  have hU : U64 (absI a) := by unfold In64 at ha; unfold U64 absI; split <;> omega
  have hU2 : U64 (absI b) := by unfold In64 at hb0; unfold U64 absI; split <;> omega
  have PR := Lib.hid (fun W => product_any (absI a) (absI b) hU hU2 W)
  go_enter Try.func74, Try.ntmps74
  go_wp2_with fail
  refine (size02_any a ha _).mono ?_
  rintro e w' ⟨rfl, rfl⟩
  go_wp2_with fail
  refine (size02_any b hb0 _).mono ?_
  rintro e w' ⟨rfl, rfl⟩
  go_wp2_with fail
  refine (PR.out _).mono ?_
  rintro e w1 ⟨rfl, hb1⟩; obtain ⟨hc1, hf1, hz1⟩ := bcell hb1; (try simp at hz1); (try have : w.heap.size < w1.heap.size := by omega); (try have : w.heap.size + 1 < w1.heap.size := by omega); (try have : w.heap.size + 1 + 1 < w1.heap.size := by omega); (try have : w.heap.size + 1 + 1 + 1 < w1.heap.size := by omega); (try have : g < w1.heap.size := by omega); (try have : ga < w1.heap.size := by omega); (try have : gb < w1.heap.size := by omega); (try have : gc < w1.heap.size := by omega); have hB : Below w.heap.size w w1 := (by repeat (first | (with_reducible exact Below.refl _ _) | (with_reducible assumption) | (with_reducible refine Below.drew ?_) | (with_reducible refine Below.alloc ?_ ?_ _) | (with_reducible refine Below.setCell ?_ ?_ _) | (with_reducible refine Below.trans ?_ (Below.mono hb ?_)) | (with_reducible refine Below.trans ?_ (Below.mono hb1 ?_)) | (with_reducible refine Below.trans ?_ (Below.mono hb2 ?_)) | (with_reducible refine Below.trans ?_ (Below.mono hb3 ?_)) | (with_reducible refine Below.trans ?_ (Below.mono hb4 ?_)) | (with_reducible refine Below.trans ?_ (Below.mono hb5 ?_)) | (with_reducible refine Below.trans ?_ (Below.mono hb6 ?_)) | (with_reducible refine Below.trans ?_ (Below.mono hb7 ?_)) | (with_reducible refine Below.trans ?_ (Below.mono hb8 ?_)) | (with_reducible refine Below.trans ?_ (Below.mono hb9 ?_)) | (focus (first | omega | (simp; done) | (simp; omega))) | exact hB))
  go_wp2_with (first | (go_at_call 102; fail) | simp only [])
  have t30 : w1.heap[w.heap.size]? = some (.cells #[.int .u64 (dg 0 (p)), .int .u64 (dg 1 (p)), .int .u64 (dg 2 (p)), .int .u64 (dg 3 (p)), .int .u64 (dg 4 (p)), .int .u64 (dg 5 (p)), .int .u64 (dg 0 (n)), .int .u64 (dg 1 (n)), .int .u64 (dg 2 (n)), .int .u64 (dg 3 (n)), .int .u64 (dg 4 (n)), .int .u64 (dg 5 (n))] 104 (0, 0)) := (hb1.block _ (by simp; omega)).trans ((Below.heap_alloc _ _ _ (by simp)).trans (heap_alloc_new w _))
  have rv0 : w1.heap[w.heap.size + 1]? = some (.cells #[.int .u64 0, .int .u64 0, .int .u64 0, .int .u64 0, .int .u64 0, .int .u64 0, .int .u64 0, .int .u64 0, .int .u64 0, .int .u64 0, .int .u64 0, .int .u64 0] 104 (0, 0)) := (hb1.block _ (by simp)).trans (newest_at _ _ (by simp))
  have kr0 := lt_of_block rv0
  refine (plus_any _ _ _).mono ?_
  rintro e w2 ⟨rfl, hb2⟩
  have t3 : w2.heap[w.heap.size]? = some (.cells #[.int .u64 (dg 0 (p)), .int .u64 (dg 1 (p)), .int .u64 (dg 2 (p)), .int .u64 (dg 3 (p)), .int .u64 (dg 4 (p)), .int .u64 (dg 5 (p)), .int .u64 (dg 0 (n)), .int .u64 (dg 1 (n)), .int .u64 (dg 2 (n)), .int .u64 (dg 3 (n)), .int .u64 (dg 4 (n)), .int .u64 (dg 5 (n))] 104 (0, 0)) := (hb2.block _ (by simp; omega)).trans ((Below.heap_alloc _ _ _ (by omega)).trans t30)
  have rv : w2.heap[w.heap.size + 1]? = some (.cells #[.int .u64 0, .int .u64 0, .int .u64 0, .int .u64 0, .int .u64 0, .int .u64 0, .int .u64 0, .int .u64 0, .int .u64 0, .int .u64 0, .int .u64 0, .int .u64 0] 104 (0, 0)) := (hb2.block _ (by simp; omega)).trans ((Below.heap_alloc _ _ _ kr0).trans rv0)
  have BW : Below w.heap.size w w2 := (by repeat (first | (with_reducible exact Below.refl _ _) | (with_reducible assumption) | (with_reducible refine Below.drew ?_) | (with_reducible refine Below.alloc ?_ ?_ _) | (with_reducible refine Below.setCell ?_ ?_ _) | (with_reducible refine Below.trans ?_ (Below.mono hb ?_)) | (with_reducible refine Below.trans ?_ (Below.mono hb1 ?_)) | (with_reducible refine Below.trans ?_ (Below.mono hb2 ?_)) | (with_reducible refine Below.trans ?_ (Below.mono hb3 ?_)) | (with_reducible refine Below.trans ?_ (Below.mono hb4 ?_)) | (with_reducible refine Below.trans ?_ (Below.mono hb5 ?_)) | (with_reducible refine Below.trans ?_ (Below.mono hb6 ?_)) | (with_reducible refine Below.trans ?_ (Below.mono hb7 ?_)) | (with_reducible refine Below.trans ?_ (Below.mono hb8 ?_)) | (with_reducible refine Below.trans ?_ (Below.mono hb9 ?_)) | (focus (first | omega | (simp; done) | (simp; omega))) | exact hB))
  have x0 := cell_of_row w2 w.heap.size 0 _ _ _ t3
  have x1 := cell_of_row w2 w.heap.size 1 _ _ _ t3
  have x2 := cell_of_row w2 w.heap.size 2 _ _ _ t3
  have x3 := cell_of_row w2 w.heap.size 3 _ _ _ t3
  have x4 := cell_of_row w2 w.heap.size 4 _ _ _ t3
  have x5 := cell_of_row w2 w.heap.size 5 _ _ _ t3
  have x6 := cell_of_row w2 w.heap.size 6 _ _ _ t3
  have x7 := cell_of_row w2 w.heap.size 7 _ _ _ t3
  have x8 := cell_of_row w2 w.heap.size 8 _ _ _ t3
  have x9 := cell_of_row w2 w.heap.size 9 _ _ _ t3
  have x10 := cell_of_row w2 w.heap.size 10 _ _ _ t3
  have x11 := cell_of_row w2 w.heap.size 11 _ _ _ t3
  have xf : ∀ i, w2.frozen? ⟨w.heap.size, i, none⟩ = false := fun i => by simp [World.frozen?, t3]
  simp only [List.getElem?_toArray, List.getElem?_cons_zero, List.getElem?_cons_succ] at x0 x1 x2 x3 x4 x5 x6 x7 x8 x9 x10 x11
  have T3 := Lib.hid t3
  have RV := Lib.hid rv
  clear t3 rv t30 rv0 hc1 hf1 hB hb1 hb2
  go_upto_region 5 with (fail)
  obtain ⟨wc, hwc⟩ : ∃ wc : World, wc = ((((((w2.setCell ⟨w.heap.size, 0, none⟩ (.int .u64 (dg 0 (p + absI a * absI b)))).setCell ⟨w.heap.size, 1, none⟩ (.int .u64 (dg 1 (p + absI a * absI b)))).setCell ⟨w.heap.size, 2, none⟩ (.int .u64 (dg 2 (p + absI a * absI b)))).setCell ⟨w.heap.size, 3, none⟩ (.int .u64 (dg 3 (p + absI a * absI b)))).setCell ⟨w.heap.size, 4, none⟩ (.int .u64 (dg 4 (p + absI a * absI b)))).setCell ⟨w.heap.size, 5, none⟩ (.int .u64 (dg 5 (p + absI a * absI b)))) := ⟨_, rfl⟩
  rw [← hwc]
  have t8 : wc.heap[w.heap.size]? = some (.cells #[.int .u64 (dg 0 (p + absI a * absI b)), .int .u64 (dg 1 (p + absI a * absI b)), .int .u64 (dg 2 (p + absI a * absI b)), .int .u64 (dg 3 (p + absI a * absI b)), .int .u64 (dg 4 (p + absI a * absI b)), .int .u64 (dg 5 (p + absI a * absI b)), .int .u64 (dg 0 (n)), .int .u64 (dg 1 (n)), .int .u64 (dg 2 (n)), .int .u64 (dg 3 (n)), .int .u64 (dg 4 (n)), .int .u64 (dg 5 (n))] 104 (0, 0)) := by rw [hwc]; exact setLo (.int .u64 (dg 0 (p + absI a * absI b))) (.int .u64 (dg 1 (p + absI a * absI b))) (.int .u64 (dg 2 (p + absI a * absI b))) (.int .u64 (dg 3 (p + absI a * absI b))) (.int .u64 (dg 4 (p + absI a * absI b))) (.int .u64 (dg 5 (p + absI a * absI b))) T3.out
  have rv1 : wc.heap[w.heap.size + 1]? = some (.cells #[.int .u64 0, .int .u64 0, .int .u64 0, .int .u64 0, .int .u64 0, .int .u64 0, .int .u64 0, .int .u64 0, .int .u64 0, .int .u64 0, .int .u64 0, .int .u64 0] 104 (0, 0)) := by rw [hwc]; exact (setLo_far (.int .u64 (dg 0 (p + absI a * absI b))) (.int .u64 (dg 1 (p + absI a * absI b))) (.int .u64 (dg 2 (p + absI a * absI b))) (.int .u64 (dg 3 (p + absI a * absI b))) (.int .u64 (dg 4 (p + absI a * absI b))) (.int .u64 (dg 5 (p + absI a * absI b))) (Nat.succ_ne_self _)).trans RV.out
  have BW1 : Below w.heap.size w wc := by rw [hwc]; exact BW.trans (set6_below (.int .u64 (dg 0 (p + absI a * absI b))) (.int .u64 (dg 1 (p + absI a * absI b))) (.int .u64 (dg 2 (p + absI a * absI b))) (.int .u64 (dg 3 (p + absI a * absI b))) (.int .u64 (dg 4 (p + absI a * absI b))) (.int .u64 (dg 5 (p + absI a * absI b))) (Nat.le_refl _))
  clear hwc x0 x1 x2 x3 x4 x5 x6 x7 x8 x9 x10 x11 xf T3 RV BW
  have y0 := cell_of_row wc w.heap.size 0 _ _ _ t8
  have y1 := cell_of_row wc w.heap.size 1 _ _ _ t8
  have y2 := cell_of_row wc w.heap.size 2 _ _ _ t8
  have y3 := cell_of_row wc w.heap.size 3 _ _ _ t8
  have y4 := cell_of_row wc w.heap.size 4 _ _ _ t8
  have y5 := cell_of_row wc w.heap.size 5 _ _ _ t8
  have y6 := cell_of_row wc w.heap.size 6 _ _ _ t8
  have y7 := cell_of_row wc w.heap.size 7 _ _ _ t8
  have y8 := cell_of_row wc w.heap.size 8 _ _ _ t8
  have y9 := cell_of_row wc w.heap.size 9 _ _ _ t8
  have y10 := cell_of_row wc w.heap.size 10 _ _ _ t8
  have y11 := cell_of_row wc w.heap.size 11 _ _ _ t8
  have z0 := cell_of_row wc (w.heap.size + 1) 0 _ _ _ rv1
  have z1 := cell_of_row wc (w.heap.size + 1) 1 _ _ _ rv1
  have z2 := cell_of_row wc (w.heap.size + 1) 2 _ _ _ rv1
  have z3 := cell_of_row wc (w.heap.size + 1) 3 _ _ _ rv1
  have z4 := cell_of_row wc (w.heap.size + 1) 4 _ _ _ rv1
  have z5 := cell_of_row wc (w.heap.size + 1) 5 _ _ _ rv1
  have z6 := cell_of_row wc (w.heap.size + 1) 6 _ _ _ rv1
  have z7 := cell_of_row wc (w.heap.size + 1) 7 _ _ _ rv1
  have z8 := cell_of_row wc (w.heap.size + 1) 8 _ _ _ rv1
  have z9 := cell_of_row wc (w.heap.size + 1) 9 _ _ _ rv1
  have z10 := cell_of_row wc (w.heap.size + 1) 10 _ _ _ rv1
  have z11 := cell_of_row wc (w.heap.size + 1) 11 _ _ _ rv1
  have zf : ∀ i, wc.frozen? ⟨w.heap.size + 1, i, none⟩ = false := fun i => by simp [World.frozen?, rv1]
  simp only [List.getElem?_toArray, List.getElem?_cons_zero, List.getElem?_cons_succ] at y0 z0 y1 z1 y2 z2 y3 z3 y4 z4 y5 z5 y6 z6 y7 z7 y8 z8 y9 z9 y10 z10 y11 z11
  have k8 := lt_of_block t8
  have kw := lt_of_block rv1
  clear rv1 t8
  go_wp2
  exact bodyPost_ret (v := .agg #[.int .u64 (dg 0 (p + absI a * absI b)), .int .u64 (dg 1 (p + absI a * absI b)), .int .u64 (dg 2 (p + absI a * absI b)), .int .u64 (dg 3 (p + absI a * absI b)), .int .u64 (dg 4 (p + absI a * absI b)), .int .u64 (dg 5 (p + absI a * absI b)), .int .u64 (dg 0 (n)), .int .u64 (dg 1 (n)), .int .u64 (dg 2 (n)), .int .u64 (dg 3 (n)), .int .u64 (dg 4 (n)), .int .u64 (dg 5 (n))]) (by simp [*, results, Try.results74, go_sem]) rfl ⟨rfl, (by repeat (first | (with_reducible exact Below.refl _ _) | (with_reducible assumption) | (with_reducible refine Below.drew ?_) | (with_reducible refine Below.alloc ?_ ?_ _) | (with_reducible refine Below.setCell ?_ ?_ _) | (with_reducible refine Below.trans ?_ (Below.mono hb ?_)) | (with_reducible refine Below.trans ?_ (Below.mono hb1 ?_)) | (with_reducible refine Below.trans ?_ (Below.mono hb2 ?_)) | (with_reducible refine Below.trans ?_ (Below.mono hb3 ?_)) | (with_reducible refine Below.trans ?_ (Below.mono hb4 ?_)) | (with_reducible refine Below.trans ?_ (Below.mono hb5 ?_)) | (with_reducible refine Below.trans ?_ (Below.mono hb6 ?_)) | (with_reducible refine Below.trans ?_ (Below.mono hb7 ?_)) | (with_reducible refine Below.trans ?_ (Below.mono hb8 ?_)) | (with_reducible refine Below.trans ?_ (Below.mono hb9 ?_)) | (focus (first | omega | (simp; done) | (simp; omega))) | exact hB))⟩

theorem smul_any (p n a b : Int) (ha : In64 a) (hb0 : In64 b) (w : World) :
    Calls Try.prog 74 #[.agg #[.int .u64 (dg 0 (p)), .int .u64 (dg 1 (p)), .int .u64 (dg 2 (p)), .int .u64 (dg 3 (p)), .int .u64 (dg 4 (p)), .int .u64 (dg 5 (p)), .int .u64 (dg 0 (n)), .int .u64 (dg 1 (n)), .int .u64 (dg 2 (n)), .int .u64 (dg 3 (n)), .int .u64 (dg 4 (n)), .int .u64 (dg 5 (n))], .int .i64 a, .int .i64 b] w fun e w' => e = .returned (.agg #[.int .u64 (dg 0 (p + posP (a * b))), .int .u64 (dg 1 (p + posP (a * b))), .int .u64 (dg 2 (p + posP (a * b))), .int .u64 (dg 3 (p + posP (a * b))), .int .u64 (dg 4 (p + posP (a * b))), .int .u64 (dg 5 (p + posP (a * b))), .int .u64 (dg 0 (n + negP (a * b))), .int .u64 (dg 1 (n + negP (a * b))), .int .u64 (dg 2 (n + negP (a * b))), .int .u64 (dg 3 (n + negP (a * b))), .int .u64 (dg 4 (n + negP (a * b))), .int .u64 (dg 5 (n + negP (a * b)))]) ∧ Below w.heap.size w w' := by
  have hab := absI_mul a b
  rcases absI_cases a with ⟨s, es⟩ | ⟨s, es⟩ <;> rcases absI_cases b with ⟨t, et⟩ | ⟨t, et⟩
  · have h0 : 0 < a * b := Int.mul_pos_of_neg_of_neg s t
    have e1 : posP (a * b) = absI a * absI b := by rw [← hab]; unfold posP absI; rw [if_neg (by omega), if_neg (by omega)]
    have e2 : negP (a * b) = 0 := by unfold negP; rw [if_neg (by omega)]
    rw [e1, e2, Int.add_zero]
    exact smul_tt p n a b ha hb0 (decide_eq_true s) (decide_eq_true t) w
  · have h0 : a * b ≤ 0 := Int.mul_nonpos_of_nonpos_of_nonneg (by omega) t
    have e1 : posP (a * b) = 0 := by unfold posP; split <;> omega
    have e2 : negP (a * b) = absI a * absI b := by rw [← hab]; unfold negP absI; split <;> omega
    rw [e1, e2, Int.add_zero]
    exact smul_tf p n a b ha hb0 (decide_eq_true s) (decide_eq_false (by omega)) w
  · have h0 : a * b ≤ 0 := Int.mul_nonpos_of_nonneg_of_nonpos s (by omega)
    have e1 : posP (a * b) = 0 := by unfold posP; split <;> omega
    have e2 : negP (a * b) = absI a * absI b := by rw [← hab]; unfold negP absI; split <;> omega
    rw [e1, e2, Int.add_zero]
    exact smul_ft p n a b ha hb0 (decide_eq_false (by omega)) (decide_eq_true t) w
  · have h0 : 0 ≤ a * b := Int.mul_nonneg s t
    have e1 : posP (a * b) = absI a * absI b := by rw [← hab]; unfold posP absI; rw [if_neg (by omega), if_neg (by omega)]
    have e2 : negP (a * b) = 0 := by unfold negP; rw [if_neg (by omega)]
    rw [e1, e2, Int.add_zero]
    exact smul_ff p n a b ha hb0 (decide_eq_false (by omega)) (decide_eq_false (by omega)) w
end Go.Proofs.Ytikjomekhnkgcaa
